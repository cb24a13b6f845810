/- The pure side of the law FnPathIn: what the printed functions tell is what the law says, for every input within the law's bounds. -/
import Derived.Test.YtglliobchdjmcaaPFnPathInx2
import Derived.Test.YtglliobchdjmcaaBase
set_option linter.unusedVariables false
set_option linter.unusedSimpArgs false
namespace Go.Proofs.Ytglliobchdjmcaa.Pure
open Go.RowKit Go.Proofs.Ytglliobchdjmcaa.PFnPathIn Go.Proofs.YtglliobchdjmcaaW.PrintWords Go.Proofs.YtglliobchdjmcaaW.PrintLast Go.Proofs.Ytglliobchdjmcaa.Base

/-- path is below b: it goes on from it at a slash. -/
def pathIn (p b : Bs) : Bool := decide (b ≠ []) && b.isPrefixOf p && (decide (p.length = b.length) || decide (b[b.length - 1]?.getD 0 = 47) || decide (p[b.length]?.getD 0 = 47))

theorem b47 (x : UInt8) : ((x.toNat : Int) = 47) ↔ x = 47 := byte_eq x 47 (by decide)
theorem take_prefix (p b : Bs) : (b.length ≤ p.length ∧ p.take b.length = b) ↔ b.isPrefixOf p = true := by
  rw [List.isPrefixOf_iff_prefix]
  constructor
  · rintro ⟨_, h⟩; rw [← h]; exact List.take_prefix _ _
  · intro h; exact ⟨h.length_le, by obtain ⟨t, rfl⟩ := h; simp⟩

theorem spec_PathIn (p b : Bs) (hp : p.length ≤ 140737488355328) (hb : b.length ≤ 140737488355328) : spec_PathIn.f (B p) (B b) = some (pathIn p b) := by
  unfold spec_PathIn.f pathIn
  simp only [B_size, B_extract, B_toList, bt_B, b47]
  by_cases h0 : b = []
  · subst h0; simp
  · have hl : 0 < b.length := List.length_pos_iff.2 h0
    rw [if_neg (by omega)]
    have tp := take_prefix p b
    by_cases h1 : (p.length : Int) < b.length
    · rw [if_pos h1]
      have : b.isPrefixOf p = false := by
        cases h : b.isPrefixOf p
        · rfl
        · have := (tp.2 h).1; omega
      simp [this]
    · rw [if_neg h1, if_pos (by omega), if_pos (by omega)]
      have h1' : b.length ≤ p.length := by omega
      rw [w64 (by omega) (by omega)]
      have e1 : ((b.length : Int)).toNat = b.length := by omega
      have e2 : ((b.length : Int) - 1).toNat = b.length - 1 := by omega
      simp only [e1, e2, Nat.sub_zero, List.drop_zero]
      by_cases h2 : p.take b.length = b
      · have h2' := tp.1 ⟨h1', h2⟩
        rw [if_pos h2, h2']
        by_cases h3 : p.length = b.length
        · rw [if_pos (by omega)]; simp [h0, h3]
        · rw [if_neg (by omega), if_pos (by omega), if_pos (by omega)]
          by_cases h4 : b[b.length - 1]?.getD 0 = 47
          · rw [if_pos h4]; simp [h0, h4]
          · rw [if_neg h4, if_pos (by omega)]
            simp only [h0, h3, h4, decide_true, decide_false, Bool.false_or, Bool.true_and, ne_eq, not_false_eq_true, Option.some.injEq]
            exact bool_eq (by rw [beq_iff_eq, b47, decide_eq_true_eq])
      · rw [if_neg h2]
        have : b.isPrefixOf p = false := by
          cases h : b.isPrefixOf p
          · rfl
          · exact absurd (tp.2 h).2 h2
        simp [this]

theorem HasPrefix_ (p b : Bs) : stringslite_HasPrefix.f (B p) (B b) = some (b.isPrefixOf p) := by
  unfold stringslite_HasPrefix.f
  simp only [B_size, B_extract, B_toList]
  have tp := take_prefix p b
  have e1 : ((b.length : Int)).toNat = b.length := by omega
  simp only [e1, Nat.sub_zero, List.drop_zero]
  by_cases h1 : (p.length : Int) ≥ b.length
  · rw [if_pos h1, if_pos (by omega), if_pos (by omega)]
    have h1' : b.length ≤ p.length := by omega
    congr 1
    exact bool_eq (by rw [beq_iff_eq, ← tp]; simp [h1'])
  · rw [if_neg h1]
    simp only [Option.some.injEq]
    cases h : b.isPrefixOf p
    · rfl
    · have := (tp.2 h).1; omega
theorem CutPrefix_ (p b : Bs) : stringslite_CutPrefix.f (B p) (B b) = some (if b.isPrefixOf p then (B (p.drop b.length), true) else (B p, false)) := by
  unfold stringslite_CutPrefix.f
  rw [HasPrefix_]
  simp only [Option.bind_some, B_size, B_extract]
  have tp := take_prefix p b
  have e1 : ((b.length : Int)).toNat = b.length := by omega
  by_cases h : b.isPrefixOf p = true
  · have := (tp.2 h).1
    rw [if_pos h, if_pos (by omega), if_pos (by omega), h]
    simp only [e1, if_true]
    rw [List.take_of_length_le (by simp)]
  · rw [if_neg h, if_neg h]
theorem CutPrefix_s (p b : Bs) : strings_CutPrefix.f (B p) (B b) = some (if b.isPrefixOf p then (B (p.drop b.length), true) else (B p, false)) := by
  unfold strings_CutPrefix.f; rw [CutPrefix_]; simp
theorem HasSuffix_47 (b : Bs) (hb : b.length ≤ 140737488355328) : strings_HasSuffix.f (B b) (B [47]) = some (decide (b ≠ []) && decide (b[b.length - 1]?.getD 0 = 47)) := by
  unfold strings_HasSuffix.f stringslite_HasSuffix.f
  simp only [B_size, B_extract, B_toList, List.length_singleton]
  by_cases h1 : (b.length : Int) ≥ ((1 : Nat) : Int)
  · rw [if_pos h1, w64 (by omega) (by omega), if_pos (by omega), if_pos (by omega)]
    have e2 : ((b.length : Int) - ((1 : Nat) : Int)).toNat = b.length - 1 := by omega
    have hne : b ≠ [] := by intro h; subst h; simp at h1
    simp only [e2, Option.bind_some, Option.some.injEq, hne, ne_eq, not_false_eq_true, decide_true, Bool.true_and]
    have : List.take (b.length - (b.length - 1)) (List.drop (b.length - 1) b) = [b[b.length - 1]?.getD 0] := by
      have e : b.length - (b.length - 1) = 1 := by omega
      rw [e, List.drop_eq_getElem_cons (by omega)]
      rw [List.take_succ_cons, List.take_zero, List.getElem?_eq_getElem (by omega)]; rfl
    rw [this]
    exact bool_eq (by simp)
  · rw [if_neg h1]
    have : b = [] := List.length_eq_zero_iff.1 (by omega)
    subst this; simp
theorem impl_PathIn (p b : Bs) (hp : p.length ≤ 140737488355328) (hb : b.length ≤ 140737488355328) : impl_PathIn.f (B p) (B b) = some (pathIn p b) := by
  unfold impl_PathIn.f pathIn
  have e47 : (⟨#[47]⟩ : ByteArray) = B [47] := rfl
  rw [CutPrefix_s, e47, HasSuffix_47 b hb]
  have tp := take_prefix p b
  simp only [Option.bind_some, B_toList]
  by_cases h0 : b = []
  · subst h0; simp
  · rw [if_neg h0]
    by_cases h : b.isPrefixOf p = true
    · obtain ⟨h1, h2⟩ := tp.2 h
      simp only [h, if_true, B_toList, B_size, bt_B]
      by_cases h3 : p.length = b.length
      · rw [if_pos (List.drop_eq_nil_of_le (by omega))]; simp [h0, h3]
      · have hd : p.drop b.length ≠ [] := by intro hh; have := congrArg List.length hh; simp at this; omega
        rw [if_neg hd]
        by_cases h4 : b[b.length - 1]?.getD 0 = 47
        · simp [h0, h4]
        · simp only [h0, h4, ne_eq, not_false_eq_true, decide_true, decide_false, Bool.and_false, Bool.false_eq_true, if_false, h3, Bool.false_or, Bool.true_and]
          rw [if_pos (by simp; omega)]
          congr 1
          exact bool_eq (by rw [beq_iff_eq, b47, decide_eq_true_eq]; simp)
    · have h' : b.isPrefixOf p = false := Bool.eq_false_iff.2 h
      simp [h', h0]

/-- A reader over these bytes may be asked some more times. -/
def RdOk (s : List Int) (p : Int) (n : Nat) : Prop := (∀ x ∈ s, 0 ≤ x ∧ x ≤ 255) ∧ s.length ≤ 2000 ∧ 0 ≤ p ∧ p + n ≤ 1000000000
theorem xor_nn (a b : Int) (ha : 0 ≤ a) (ha' : a < 4611686018427387904) (hb : 0 ≤ b) (hb' : b < 4611686018427387904) : 0 ≤ Go.bits .xor .i64 a b ∧ Go.bits .xor .i64 a b < 4611686018427387904 := by
  obtain ⟨a, rfl⟩ := Int.eq_ofNat_of_zero_le ha
  obtain ⟨b, rfl⟩ := Int.eq_ofNat_of_zero_le hb
  have hx : a ^^^ b < 2 ^ 62 := Nat.xor_lt_two_pow (by omega) (by omega)
  have h1 : (BitVec.ofInt 64 (a : Int)).toNat = a := by
    rw [BitVec.ofInt_natCast, BitVec.toNat_ofNat]; exact Nat.mod_eq_of_lt (by omega)
  have h2 : (BitVec.ofInt 64 (b : Int)).toNat = b := by
    rw [BitVec.ofInt_natCast, BitVec.toNat_ofNat]; exact Nat.mod_eq_of_lt (by omega)
  have e : Go.bits .xor .i64 (a : Int) (b : Int) = ((a ^^^ b : Nat) : Int) := by
    show IntKind.i64.wrap ((BitVec.ofInt 64 (a : Int) ^^^ BitVec.ofInt 64 (b : Int)).toNat : Int) = _
    rw [BitVec.toNat_xor, h1, h2, i64_w]
    exact w64 (by omega) (by omega)
  rw [e]; omega
theorem tmod_rng (a n : Int) (ha : 0 ≤ a) (hn : 0 < n) : 0 ≤ Int.tmod a n ∧ Int.tmod a n < n := by
  rw [Int.tmod_eq_emod_of_nonneg ha]; exact ⟨Int.emod_nonneg _ (by omega), Int.emod_lt_of_pos _ hn⟩
theorem tdiv_rng (a n : Int) (ha : 0 ≤ a) (hn : 0 < n) : 0 ≤ Int.tdiv a n ∧ Int.tdiv a n ≤ a := by
  rw [Int.tdiv_eq_ediv_of_nonneg ha]; exact ⟨Int.ediv_nonneg ha (by omega), Int.ediv_le_self _ ha⟩
theorem rd_rng {s : List Int} (h : ∀ x ∈ s, 0 ≤ x ∧ x ≤ 255) (i : Int) : 0 ≤ rd s i ∧ rd s i ≤ 255 := by
  unfold rd
  by_cases hi : i.toNat < s.length
  · rw [List.getD_eq_getElem?_getD, List.getElem?_eq_getElem hi]; exact h _ (List.getElem_mem hi)
  · rw [List.getD_eq_getElem?_getD, List.getElem?_eq_none (by omega)]; simp
theorem pick_some (k : Nat) (s : List Int) (p n : Int) {m : Nat} (h : RdOk s p (m + 1)) (hn : 1 ≤ n) (hn' : n ≤ 1000000) : ∃ r, spec_l1Rd_pick.f (k + 1) s p n = some (r, p + 1) ∧ 0 ≤ r ∧ r < n := by
  obtain ⟨hs, hl, hp, hp'⟩ := h
  unfold spec_l1Rd_pick.f
  rw [if_neg (by omega), w64 (n := p + 1) (by omega) (by omega)]
  simp only [spec_l1Rd_pick.j0]
  by_cases hz : s.length = 0
  · rw [if_pos (by simp [hz])]; exact ⟨0, rfl, by omega, by omega⟩
  · rw [if_neg (by simp; exact fun e => hz (by simp [e])), w64 (n := p + 1 - 1) (by omega) (by omega)]
    have e1 : p + 1 - 1 = p := by omega
    rw [e1]
    have hlen : (0 : Int) < s.length := by omega
    by_cases hlt : p < s.length
    · rw [if_pos hlt, if_pos hp, if_neg (by omega)]
      have hr := rd_rng hs p
      rw [w64 (n := rd s p) (by omega) (by omega)]
      obtain ⟨h1, h2⟩ := tmod_rng (rd s p) n hr.1 (by omega)
      exact ⟨_, rfl, h1, h2⟩
    · rw [if_neg hlt, if_neg (by omega)]
      rw [w64 (n := p * 7) (by omega) (by omega), w64 (n := p * 7 + 3) (by omega) (by omega)]
      obtain ⟨a1, a2⟩ := tmod_rng p s.length hp hlen
      obtain ⟨b1, b2⟩ := tmod_rng (p * 7 + 3) s.length (by omega) hlen
      rw [if_pos a1, if_pos a2, if_pos b1, if_pos b2, if_neg (by omega)]
      have ra := rd_rng hs (Int.tmod p s.length)
      have rb := rd_rng hs (Int.tmod (p * 7 + 3) s.length)
      generalize rd s (Int.tmod p s.length) = x at ra ⊢
      generalize rd s (Int.tmod (p * 7 + 3) s.length) = y at rb ⊢
      obtain ⟨d1, d2⟩ := tdiv_rng p s.length hp hlen
      generalize Int.tdiv p s.length = q at d1 d2 ⊢
      rw [w64 (n := x) (by omega) (by omega), w64 (n := y) (by omega) (by omega), w64 (n := x * 131) (by omega) (by omega), w64 (n := y * 1117) (by omega) (by omega), w64 (n := q) (by omega) (by omega), w64 (n := q * 53) (by omega) (by omega), w64 (n := p * 29) (by omega) (by omega),
        w64 (n := x * 131 + y * 1117) (by omega) (by omega), w64 (n := x * 131 + y * 1117 + p * 29) (by omega) (by omega), w64 (n := x * 131 + y * 1117 + p * 29 + q * 53) (by omega) (by omega)]
      have hz0 : 0 ≤ x * 131 + y * 1117 + p * 29 + q * 53 := by omega
      have hz1 : x * 131 + y * 1117 + p * 29 + q * 53 < 4611686018427387904 := by omega
      generalize x * 131 + y * 1117 + p * 29 + q * 53 = z at hz0 hz1 ⊢
      obtain ⟨t1, t2⟩ := tdiv_rng z 64 hz0 (by omega)
      rw [w64 (n := Int.tdiv z 64) (by omega) (by omega)]
      obtain ⟨x1, x2⟩ := xor_nn z (Int.tdiv z 64) hz0 hz1 t1 (by omega)
      obtain ⟨h1, h2⟩ := tmod_rng _ n x1 (by omega)
      exact ⟨_, rfl, h1, h2⟩
theorem RdOk.step {s : List Int} {p : Int} {m : Nat} (h : RdOk s p (m + 1)) : RdOk s (p + 1) m := ⟨h.1, h.2.1, by have := h.2.2.1; omega, by have := h.2.2.2; omega⟩
theorem l1Open_ok (l0 : List Int) (h : ∀ x ∈ l0, (Lit.int .u8 x).wf = true) (m : Nat) (hm : m ≤ 1000000000) : ∃ s, spec_l1Open.f l0 = some (s, 0) ∧ RdOk s 0 m := by
  have h' : ∀ x ∈ l0, 0 ≤ x ∧ x ≤ 255 := by
    intro x hx
    have := h x hx
    simp [Lit.wf, IntKind.min, IntKind.max, IntKind.bits, IntKind.signed] at this
    omega
  unfold spec_l1Open.f
  by_cases hl : (l0.length : Int) > 2000
  · rw [if_pos hl, if_pos (by omega)]
    exact ⟨_, rfl, fun x hx => h' x (List.mem_of_mem_take hx), by simp; omega, by omega, by omega⟩
  · rw [if_neg hl]
    exact ⟨_, rfl, h', by omega, by omega, by omega⟩

theorem of_some (k : Nat) (s : List Int) (p : Int) {m : Nat} (h : RdOk s p (m + 1)) (l : List ByteArray) (hl : l ≠ []) (hl' : l.length ≤ 1000000) : ∃ x ∈ l, spec_l1Rd_of.f (k + 1) s p l = some (x, p + 1) := by
  have hpos : 0 < l.length := List.length_pos_iff.2 hl
  obtain ⟨r, hr, h0, h1⟩ := pick_some k s p l.length h (by omega) (by omega)
  refine ⟨rdOf ByteArray.empty l r, ?_, ?_⟩
  · unfold rdOf
    rw [List.getD_eq_getElem?_getD, List.getElem?_eq_getElem (show r.toNat < l.length by omega)]
    exact List.getElem_mem _
  · unfold spec_l1Rd_of.f
    rw [hr]
    simp only [Option.bind_some]
    rw [if_pos h0, if_pos h1]

theorem pathIn_self (p : Bs) : pathIn p p = decide (p ≠ []) := by
  unfold pathIn; by_cases h : p = [] <;> simp [h]
theorem pathIn_root (p : Bs) (h : p[0]?.getD 0 = 47) : pathIn p [47] = true := by
  cases p with
  | nil => simp at h
  | cons a t => simp at h; subst h; simp [pathIn]
theorem pathIn_more (p b m : Bs) (h : pathIn p b = true) : pathIn (p ++ 47 :: m) b = true := by
  unfold pathIn at *
  simp only [Bool.and_eq_true, Bool.or_eq_true, decide_eq_true_eq] at *
  obtain ⟨⟨h0, h1⟩, h2⟩ := h
  rw [List.isPrefixOf_iff_prefix] at *
  refine ⟨⟨h0, h1.trans (List.prefix_append _ _)⟩, ?_⟩
  rcases h2 with (h2 | h2) | h2
  · right; rw [← h2]; simp
  · left; right; exact h2
  · right
    by_cases hl : b.length < p.length
    · rw [List.getElem?_append_left hl]; exact h2
    · have : b.length = p.length := by have := h1.length_le; omega
      rw [this]; simp
theorem pathIn_pre (p b : Bs) (h : pathIn p b = true) : b.length ≤ p.length ∧ p.take b.length = b := by
  unfold pathIn at h
  simp only [Bool.and_eq_true, decide_eq_true_eq] at h
  exact (take_prefix p b).2 h.1.2
theorem j0_no (k : Nat) (p b : Bs) (hp : p.length ≤ 1000000) (hb : b.length ≤ 1000000) (h : pathIn p b = false) : laws_FnPathIn.j0 (k + 1) (B p) (B b) (pathIn p b) true = some true := by
  simp only [laws_FnPathIn.j0, if_true]
  rw [spec_PathIn p b (by omega) (by omega), impl_PathIn p p (by omega) (by omega), pathIn_self]
  simp only [Option.bind_some, beq_self_eq_true, if_true, Option.some.injEq, B_toList]
  cases p <;> simp
theorem j0_yes (k : Nat) (p b : Bs) (hp : p.length ≤ 1000000) (hb : b.length ≤ 1000000) (h : pathIn p b = true) : laws_FnPathIn.j0 (k + 1) (B p) (B b) (pathIn p b) false = some true := by
  obtain ⟨h1, h2⟩ := pathIn_pre p b h
  simp only [laws_FnPathIn.j0, B_size, B_extract, B_toList]
  have e1 : ((b.length : Int)).toNat = b.length := by omega
  rw [if_neg (by simp), if_pos (by omega), if_pos (by omega), if_pos (by omega), if_pos (by simpa [e1] using h2), if_pos (by omega)]
  have e2 : B p ++ (⟨#[47, 120]⟩ : ByteArray) = B (p ++ 47 :: [120]) := B_append p [47, 120]
  rw [e2, impl_PathIn _ _ (by simp; omega) (by omega), pathIn_more p b [120] h]
  rfl
theorem FnPathIn : laws_FnPathIn.Pure := by
  intro l0 _ _ hb
  refine ⟨1, ?_⟩
  unfold laws_FnPathIn.f
  by_cases hl : (l0.length : Int) > 1048576
  · rw [if_pos hl]
  rw [if_neg hl]
  obtain ⟨s, hs, hok⟩ := l1Open_ok l0 hb 9 (by omega)
  have hd : ∃ p b : Bs, spec_DrawPathIn.f 1 l0 = some (B p, B b) ∧ p.length ≤ 1000000 ∧ b.length ≤ 1000000 := by
    unfold spec_DrawPathIn.f
    rw [hs]
    simp only [Option.bind_some]
    obtain ⟨x, hx, ex⟩ := of_some 0 s 0 hok ([(⟨#[47]⟩ : ByteArray), (⟨#[47, 97]⟩ : ByteArray), (⟨#[47, 97, 47]⟩ : ByteArray), (⟨#[47, 97, 47, 98]⟩ : ByteArray), (⟨#[47, 97, 98]⟩ : ByteArray), (⟨#[]⟩ : ByteArray)] : List ByteArray) (by simp) (by simp)
    rw [ex]
    simp only [Option.bind_some]
    obtain ⟨y, hy, ey⟩ := of_some 0 s _ hok.step ([(⟨#[47]⟩ : ByteArray), (⟨#[47, 97]⟩ : ByteArray), (⟨#[47, 97, 47]⟩ : ByteArray), (⟨#[47, 97, 47, 98]⟩ : ByteArray), (⟨#[]⟩ : ByteArray)] : List ByteArray) (by simp) (by simp)
    rw [ey]
    simp only [Option.bind_some]
    have sx : x.size ≤ 1000000 := by
      simp only [List.mem_cons, List.not_mem_nil, or_false] at hx
      rcases hx with rfl | rfl | rfl | rfl | rfl | rfl <;> decide
    have sy : y.size ≤ 1000000 := by
      simp only [List.mem_cons, List.not_mem_nil, or_false] at hy
      rcases hy with rfl | rfl | rfl | rfl | rfl <;> decide
    obtain ⟨p, rfl, hp⟩ := exBn x _ sx
    obtain ⟨b, rfl, hb⟩ := exBn y _ sy
    exact ⟨p, b, rfl, hp, hb⟩
  obtain ⟨p, b, hd, hp, hb⟩ := hd
  rw [hd]
  simp only [Option.bind_some]
  rw [impl_PathIn p b (by omega) (by omega), spec_PathIn p b (by omega) (by omega), impl_PathIn p p (by omega) (by omega), pathIn_self]
  simp only [Option.bind_some, bne_self_eq_false, Bool.false_eq_true, if_false, B_toList, B_size, bt_B]
  have e0 : (decide (p ≠ []) != (p != ([] : List UInt8))) = false := by cases p <;> simp
  rw [e0]
  simp only [Bool.false_eq_true, if_false]
  have go : laws_FnPathIn.j0 1 (B p) (B b) (pathIn p b) (!(pathIn p b)) = some true := by
    cases h : pathIn p b
    · have := j0_no 0 p b hp hb h; rw [h] at this; exact this
    · have := j0_yes 0 p b hp hb h; rw [h] at this; exact this
  by_cases h0 : p = []
  · rw [if_pos h0]; exact go
  · have hpl : 0 < p.length := List.length_pos_iff.2 h0
    rw [if_neg h0, if_pos (by omega)]
    by_cases h1 : p[0]?.getD 0 = 47
    · have e47 : (⟨#[47]⟩ : ByteArray) = B [47] := rfl
      rw [if_pos (by simpa using (byte_eq _ 47 (by decide)).2 h1), e47, impl_PathIn p [47] (by omega) (by simp), pathIn_root p h1]
      simp only [Option.bind_some, if_true]
      exact go
    · rw [if_neg (by intro hh; exact h1 ((byte_eq _ 47 (by decide)).1 (by simpa using hh)))]
      exact go

end Go.Proofs.Ytglliobchdjmcaa.Pure
