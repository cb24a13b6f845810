/- The pure side of the law FnEncode: what the printed functions tell is what the law says, for every input within the law's bounds. -/
import Derived.Test.YtekeimhhffnjpaaDoorPFnEncodex2
import Derived.Test.YtekeimhhffnjpaaDoorBase
import Derived.Test.YtekeimhhffnjpaaDoorEncodeM
set_option linter.unusedVariables false
set_option linter.unusedSimpArgs false
namespace Go.Proofs.YtekeimhhffnjpaaDoor.Pure
open Go.RowKit Go.Proofs.YtekeimhhffnjpaaDoor.H Go.Proofs.YtekeimhhffnjpaaDoor.PFnEncode Go.Proofs.YtekeimhhffnjpaaDoorW.PrintWords Go.Proofs.YtekeimhhffnjpaaDoorW.PrintLast Go.Proofs.YtekeimhhffnjpaaDoor.Base

theorem impl_Decode_some (l : Bs) : impl_Decode.f (B l) = some (B (decodeMax l)) := by
  unfold impl_Decode.f; rw [B_data]

theorem spec_Has (any : Bs) (c : UInt8) (h : any.length ≤ 1000000) : Ev (fun k => spec_l1Has.f k (B any) ((c.toNat : Nat) : Int)) (any.contains c) := by
  unfold spec_l1Has.f
  have go : ∀ (d i : Nat), i + d = any.length → Ev (fun k => spec_l1Has.l0 k (B any) ((c.toNat : Nat) : Int) i) ((any.drop i).contains c) := by
    intro d
    induction d with
    | zero =>
      intro i hi
      refine ev_1 fun k => ?_
      simp only [spec_l1Has.l0]
      rw [if_neg (by rw [B_size]; omega), List.drop_eq_nil_of_le (by omega)]; rfl
    | succ d ih =>
      intro i hi
      have hlt : i < any.length := by omega
      refine Ev.step (fun k => by rw [spec_l1Has.l0]) ?_
      have hi0 : (0 : Int) ≤ (i : Int) := by omega
      have hi1 : (i : Int) < (any.length : Int) := by omega
      have hw : wrap64 ((i : Int) + 1) = ((i + 1 : Nat) : Int) := by rw [w64 (by omega) (by omega)]; rfl
      simp only [B_size, bt_B, Int.toNat_natCast, get_eq hlt, if_pos hi0, if_pos hi1, hw]
      rw [List.drop_eq_getElem_cons hlt, List.contains_cons]
      by_cases e : any[i] = c
      · subst e
        simp only [if_true, beq_self_eq_true, Bool.true_or]; exact Ev.now _
      · have e1 : ¬ ((any[i].toNat : Nat) : Int) = ((c.toNat : Nat) : Int) := fun h => e (UInt8.toNat_inj.1 (by omega))
        have e2 : (c == any[i]) = false := by rw [beq_eq_false_iff_ne]; exact fun h => e h.symm
        simp only [if_neg e1, e2, Bool.false_or]; exact ih (i + 1) (by omega)
  have := go any.length 0 (by omega)
  simpa using this
theorem fig_at (n : Nat) (h : n < 16) : bt (⟨#[48, 49, 50, 51, 52, 53, 54, 55, 56, 57, 65, 66, 67, 68, 69, 70]⟩ : ByteArray) ((n : Nat) : Int) = ((fig n).toNat : Int) := by
  have : (⟨#[48, 49, 50, 51, 52, 53, 54, 55, 56, 57, 65, 66, 67, 68, 69, 70]⟩ : ByteArray) = B figs := rfl
  rw [this, bt_B, Int.toNat_natCast]; rfl
theorem spec_Figure (n : Nat) (h : n < 16) : spec_l1Figure.f ((n : Nat) : Int) = some (((fig n).toNat : Nat) : Int) := by
  unfold spec_l1Figure.f
  rw [if_pos (by omega), if_pos (by omega), fig_at n h]
theorem spec_Set (n : Int) : spec_l1Set.f n = some (B (setB n)) := by
  unfold spec_l1Set.f setB
  by_cases h1 : n = 1
  · rw [if_pos h1, if_pos h1]; rfl
  by_cases h2 : n = 2
  · rw [if_neg h1, if_neg h1, if_pos h2, if_pos h2]; rfl
  by_cases h3 : n = 3
  · rw [if_neg h1, if_neg h1, if_neg h2, if_neg h2, if_pos h3, if_pos h3]; rfl
  by_cases h5 : n = 5
  · rw [if_neg h1, if_neg h1, if_neg h2, if_neg h2, if_neg h3, if_neg h3, if_pos h5, if_pos h5]; rfl
  by_cases h4 : n = 4
  · rw [if_neg h1, if_neg h1, if_neg h2, if_neg h2, if_neg h3, if_neg h3, if_neg h5, if_neg h5, if_pos h4, if_pos h4]; rfl
  rw [if_neg h1, if_neg h1, if_neg h2, if_neg h2, if_neg h3, if_neg h3, if_neg h5, if_neg h5, if_neg h4, if_neg h4]; rfl
theorem setB_len (n : Int) : (setB n).length ≤ 1000000 := by
  unfold setB; repeat (first | (split) | (simp))
theorem tq1 (c : UInt8) : Int.tdiv (wrap64 ((c.toNat : Nat) : Int)) 16 = ((c.toNat / 16 : Nat) : Int) := by
  have := lt256 c
  rw [w64 (by omega) (by omega), Int.tdiv_eq_ediv_of_nonneg (by omega)]; rfl
theorem tq2 (c : UInt8) : Int.tmod (wrap64 ((c.toNat : Nat) : Int)) 16 = ((c.toNat % 16 : Nat) : Int) := by
  have := lt256 c
  rw [w64 (by omega) (by omega), Int.tmod_eq_emod_of_nonneg (by omega)]; rfl
theorem tq3 (c : UInt8) : wrap64 ((c.toNat / 16 : Nat) : Int) = ((c.toNat / 16 : Nat) : Int) := by
  have := lt256 c
  exact w64 (by omega) (by omega)
theorem tq4 (c : UInt8) : c.toNat / 16 < 16 := by have := lt256 c; omega
set_option maxHeartbeats 1000000 in
theorem spec_Encode_l0 (any l : Bs) (ha : any.length ≤ 1000000) (hl : l.length ≤ 200) (d : Nat) : ∀ i : Nat, i + d = l.length → Ev (fun k => spec_Encode.l0 k (B l) (ns (enc any (l.take i))) (B any) i) (B (enc any l)) := by
  induction d with
  | zero =>
    intro i hi
    refine Ev.step (fun k => by rw [spec_Encode.l0]) ?_
    simp only [B_size, if_neg (show ¬ (i : Int) < (l.length : Int) by omega)]
    refine ev_1 fun k => ?_
    simp only [spec_Encode.j1, Bool.false_eq_true, if_false, str_ns]
    rw [List.take_of_length_le (by omega)]
  | succ d ih =>
    intro i hi
    have hlt : i < l.length := by omega
    have e := ih (i + 1) (by omega)
    rw [enc_take any l i hlt, ns_append] at e
    have hi0 : (0 : Int) ≤ (i : Int) := by omega
    have hi1 : (i : Int) < (l.length : Int) := by omega
    have hw : wrap64 ((i : Int) + 1) = ((i + 1 : Nat) : Int) := by rw [w64 (by omega) (by omega)]; rfl
    have hel : (enc any (l.take i)).length ≤ 600 := by
      have h1 := (enc_len any (l.take i)).2
      have h2 : (l.take i).length = i := by simp; omega
      omega
    have h255 := lt256 l[i]
    refine Ev.step (fun k => by rw [spec_Encode.l0]) ?_
    simp only [B_size, if_pos hi1, show decide ((l.length : Int) ≤ 200) = true from decide_eq_true (by omega)]
    refine Ev.step (fun k => by rw [spec_Encode.j1]) ?_
    simp only [if_true, B_size, bt_B, Int.toNat_natCast, get_eq hlt, if_pos hi0, if_pos hi1]
    have fin : ∀ b : Bool, needs any l[i] = b → Ev (fun k => spec_Encode.j2 k (B l) (ns (enc any (l.take i))) (B any) i ((l[i].toNat : Nat) : Int) b) (B (enc any l)) := by
      intro b hb
      refine Ev.step (fun k => by rw [spec_Encode.j2]) ?_
      cases b with
      | true =>
        have q1 := tq1 l[i]
        have q2 := tq2 l[i]
        have q3 := tq3 l[i]
        have q4 : l[i].toNat / 16 < 16 := tq4 l[i]
        have q5 : l[i].toNat % 16 < 16 := Nat.mod_lt _ (by decide)
        have hn : encC any l[i] = pct l[i] := by unfold encC; rw [if_pos hb]
        rw [hn] at e
        simp only [if_true, q1, q2, q3, spec_Figure _ q4, spec_Figure _ q5, Option.bind_some, hw]
        simp only [if_pos (show (ns (enc any (l.take i))).length + ([37, ((fig (l[i].toNat / 16)).toNat : Int), ((fig (l[i].toNat % 16)).toNat : Int)] : List Int).length < 140737488355328 by simp; omega)]
        exact e
      | false =>
        have hn : encC any l[i] = [l[i]] := by unfold encC; rw [if_neg (by simp [hb])]
        rw [hn, ns_one] at e
        simp only [Bool.false_eq_true, if_false, if_pos (show (ns (enc any (l.take i))).length < 140737488355328 by simp; omega), hw]
        exact e
    by_cases c1 : ((l[i].toNat : Nat) : Int) < 32
    · simp only [if_pos c1]; exact fin true (by unfold needs; simp; omega)
    · simp only [if_neg c1]
      by_cases c2 : ((l[i].toNat : Nat) : Int) > 126
      · simp only [if_pos c2]; exact fin true (by unfold needs; simp; omega)
      · simp only [if_neg c2]
        refine ev_bind (spec_Has any l[i] ha) ?_
        exact fin _ (by unfold needs; rw [decide_eq_false (show ¬ l[i].toNat < 32 by omega), decide_eq_false (show ¬ 126 < l[i].toNat by omega)]; simp)
theorem spec_Encode_ev (n : Int) (l : Bs) (hl : l.length ≤ 140737488355327) : Ev (fun k => spec_Encode.f k n (B l)) (B (encMax n l)) := by
  unfold spec_Encode.f encMax
  simp only [spec_Set, Option.bind_some]
  by_cases h : l.length ≤ 200
  · rw [if_pos h]
    exact spec_Encode_l0 (setB n) l (setB_len n) h l.length 0 (by omega)
  · rw [if_neg h]
    refine Ev.step (fun k => by rw [spec_Encode.l0]) ?_
    simp only [B_size, if_pos (show (0 : Int) < (l.length : Int) by omega), show decide ((l.length : Int) ≤ 200) = false from decide_eq_false (by omega)]
    refine ev_1 fun k => ?_
    simp only [spec_Encode.j1, Bool.false_eq_true, if_false]
    exact congrArg some (str_ns [])

theorem set_same (n : Int) (c : UInt8) : (setI n).contains c = (setB n).contains c := by
  unfold setI setB
  by_cases h1 : n = 1
  · subst h1
    show List.contains [32, 34, 35, 60, 62, 63, 123, 125, 96] c = List.contains [32, 34, 35, 60, 62, 63, 96, 123, 125] c
    simp only [List.contains_cons, List.contains_nil]
    ac_rfl
  by_cases h2 : n = 2
  · subst h2; rfl
  by_cases h3 : n = 3
  · subst h3; rfl
  by_cases h4 : n = 4
  · subst h4
    show List.contains [32, 34, 35, 60, 62, 63, 123, 125, 96, 47, 58, 59, 61, 64, 91, 92, 93, 94, 124] c = List.contains [32, 34, 35, 60, 62, 63, 96, 123, 125, 47, 58, 59, 61, 64, 91, 92, 93, 94, 124] c
    simp only [List.contains_cons, List.contains_nil]
    ac_rfl
  by_cases h5 : n = 5
  · subst h5; rfl
  rw [if_neg (by omega), if_neg h1, if_neg h2, if_neg h3, if_neg h5, if_neg h4]
theorem enc_same (n : Int) (l : Bs) : enc (setI n) l = enc (setB n) l := by
  have : encC (setI n) = encC (setB n) := by funext c; unfold encC needs; rw [set_same]
  unfold enc; rw [this]
theorem impl_encode_some (n : Int) (l : Bs) (hl : l.length ≤ 1000000) : impl_encode.f n (B l) = some (B (enc (setB n) l)) := by
  unfold impl_encode.f
  have := (enc_len (setI n) l).2
  rw [B_data, if_pos (by omega), enc_same]
theorem impl_Encode_some (n : Int) (l : Bs) (hl : l.length ≤ 1000000) : impl_Encode.f n (B l) = some (B (encMax n l)) := by
  unfold impl_Encode.f encMax
  by_cases h : l.length ≤ 200
  · rw [if_neg (by rw [B_size]; omega), if_pos h, impl_encode_some n l hl]; rfl
  · rw [if_pos (by rw [B_size]; omega), if_neg h]; rfl

/-- A reader over these bytes may be asked some more times. -/
def RdOk (s : List Int) (p : Int) (n : Nat) : Prop := (∀ x ∈ s, 0 ≤ x ∧ x ≤ 255) ∧ s.length ≤ 2000 ∧ 0 ≤ p ∧ p + n ≤ 1000000000
theorem xor_nn (a b : Int) (ha : 0 ≤ a) (ha' : a < 4611686018427387904) (hb : 0 ≤ b) (hb' : b < 4611686018427387904) : 0 ≤ Go.bits .xor .i64 a b ∧ Go.bits .xor .i64 a b < 4611686018427387904 := by
  obtain ⟨a, rfl⟩ := Int.eq_ofNat_of_zero_le ha
  obtain ⟨b, rfl⟩ := Int.eq_ofNat_of_zero_le hb
  have hx : a ^^^ b < 2 ^ 62 := Nat.xor_lt_two_pow (by omega) (by omega)
  have h1 : (BitVec.ofInt 64 (a : Int)).toNat = a := by
    rw [BitVec.ofInt_natCast, BitVec.toNat_ofNat]; exact Nat.mod_eq_of_lt (by omega)
  have h2 : (BitVec.ofInt 64 (b : Int)).toNat = b := by
    rw [BitVec.ofInt_natCast, BitVec.toNat_ofNat]; exact Nat.mod_eq_of_lt (by omega)
  have e : Go.bits .xor .i64 (a : Int) (b : Int) = ((a ^^^ b : Nat) : Int) := by
    show IntKind.i64.wrap ((BitVec.ofInt 64 (a : Int) ^^^ BitVec.ofInt 64 (b : Int)).toNat : Int) = _
    rw [BitVec.toNat_xor, h1, h2, i64_w]
    exact w64 (by omega) (by omega)
  rw [e]; omega
theorem tmod_rng (a n : Int) (ha : 0 ≤ a) (hn : 0 < n) : 0 ≤ Int.tmod a n ∧ Int.tmod a n < n := by
  rw [Int.tmod_eq_emod_of_nonneg ha]; exact ⟨Int.emod_nonneg _ (by omega), Int.emod_lt_of_pos _ hn⟩
theorem tdiv_rng (a n : Int) (ha : 0 ≤ a) (hn : 0 < n) : 0 ≤ Int.tdiv a n ∧ Int.tdiv a n ≤ a := by
  rw [Int.tdiv_eq_ediv_of_nonneg ha]; exact ⟨Int.ediv_nonneg ha (by omega), Int.ediv_le_self _ ha⟩
theorem rd_rng {s : List Int} (h : ∀ x ∈ s, 0 ≤ x ∧ x ≤ 255) (i : Int) : 0 ≤ rd s i ∧ rd s i ≤ 255 := by
  unfold rd
  by_cases hi : i.toNat < s.length
  · rw [List.getD_eq_getElem?_getD, List.getElem?_eq_getElem hi]; exact h _ (List.getElem_mem hi)
  · rw [List.getD_eq_getElem?_getD, List.getElem?_eq_none (by omega)]; simp
theorem pick_some (k : Nat) (s : List Int) (p n : Int) {m : Nat} (h : RdOk s p (m + 1)) (hn : 1 ≤ n) (hn' : n ≤ 1000000) : ∃ r, spec_l1Rd_pick.f (k + 1) s p n = some (r, p + 1) ∧ 0 ≤ r ∧ r < n := by
  obtain ⟨hs, hl, hp, hp'⟩ := h
  unfold spec_l1Rd_pick.f
  rw [if_neg (by omega), w64 (n := p + 1) (by omega) (by omega)]
  simp only [spec_l1Rd_pick.j0]
  by_cases hz : s.length = 0
  · rw [if_pos (by simp [hz])]; exact ⟨0, rfl, by omega, by omega⟩
  · rw [if_neg (by simp; exact fun e => hz (by simp [e])), w64 (n := p + 1 - 1) (by omega) (by omega)]
    have e1 : p + 1 - 1 = p := by omega
    rw [e1]
    have hlen : (0 : Int) < s.length := by omega
    by_cases hlt : p < s.length
    · rw [if_pos hlt, if_pos hp, if_neg (by omega)]
      have hr := rd_rng hs p
      rw [w64 (n := rd s p) (by omega) (by omega)]
      obtain ⟨h1, h2⟩ := tmod_rng (rd s p) n hr.1 (by omega)
      exact ⟨_, rfl, h1, h2⟩
    · rw [if_neg hlt, if_neg (by omega)]
      rw [w64 (n := p * 7) (by omega) (by omega), w64 (n := p * 7 + 3) (by omega) (by omega)]
      obtain ⟨a1, a2⟩ := tmod_rng p s.length hp hlen
      obtain ⟨b1, b2⟩ := tmod_rng (p * 7 + 3) s.length (by omega) hlen
      rw [if_pos a1, if_pos a2, if_pos b1, if_pos b2, if_neg (by omega)]
      have ra := rd_rng hs (Int.tmod p s.length)
      have rb := rd_rng hs (Int.tmod (p * 7 + 3) s.length)
      generalize rd s (Int.tmod p s.length) = x at ra ⊢
      generalize rd s (Int.tmod (p * 7 + 3) s.length) = y at rb ⊢
      obtain ⟨d1, d2⟩ := tdiv_rng p s.length hp hlen
      generalize Int.tdiv p s.length = q at d1 d2 ⊢
      rw [w64 (n := x) (by omega) (by omega), w64 (n := y) (by omega) (by omega), w64 (n := x * 131) (by omega) (by omega), w64 (n := y * 1117) (by omega) (by omega), w64 (n := q) (by omega) (by omega), w64 (n := q * 53) (by omega) (by omega), w64 (n := p * 29) (by omega) (by omega),
        w64 (n := x * 131 + y * 1117) (by omega) (by omega), w64 (n := x * 131 + y * 1117 + p * 29) (by omega) (by omega), w64 (n := x * 131 + y * 1117 + p * 29 + q * 53) (by omega) (by omega)]
      have hz0 : 0 ≤ x * 131 + y * 1117 + p * 29 + q * 53 := by omega
      have hz1 : x * 131 + y * 1117 + p * 29 + q * 53 < 4611686018427387904 := by omega
      generalize x * 131 + y * 1117 + p * 29 + q * 53 = z at hz0 hz1 ⊢
      obtain ⟨t1, t2⟩ := tdiv_rng z 64 hz0 (by omega)
      rw [w64 (n := Int.tdiv z 64) (by omega) (by omega)]
      obtain ⟨x1, x2⟩ := xor_nn z (Int.tdiv z 64) hz0 hz1 t1 (by omega)
      obtain ⟨h1, h2⟩ := tmod_rng _ n x1 (by omega)
      exact ⟨_, rfl, h1, h2⟩
theorem RdOk.step {s : List Int} {p : Int} {m : Nat} (h : RdOk s p (m + 1)) : RdOk s (p + 1) m := ⟨h.1, h.2.1, by have := h.2.2.1; omega, by have := h.2.2.2; omega⟩
theorem l1Open_ok (l0 : List Int) (h : ∀ x ∈ l0, (Lit.int .u8 x).wf = true) (m : Nat) (hm : m ≤ 1000000000) : ∃ s, spec_l1Open.f l0 = some (s, 0) ∧ RdOk s 0 m := by
  have h' : ∀ x ∈ l0, 0 ≤ x ∧ x ≤ 255 := by
    intro x hx
    have := h x hx
    simp [Lit.wf, IntKind.min, IntKind.max, IntKind.bits, IntKind.signed] at this
    omega
  unfold spec_l1Open.f
  by_cases hl : (l0.length : Int) > 2000
  · rw [if_pos hl, if_pos (by omega)]
    exact ⟨_, rfl, fun x hx => h' x (List.mem_of_mem_take hx), by simp; omega, by omega, by omega⟩
  · rw [if_neg hl]
    exact ⟨_, rfl, h', by omega, by omega, by omega⟩
theorem pick_ev (s : List Int) (p n : Int) {m : Nat} (h : RdOk s p (m + 1)) (hn : 1 ≤ n) (hn' : n ≤ 1000000) : ∃ r, Ev (fun k => spec_l1Rd_pick.f k s p n) (r, p + 1) ∧ 0 ≤ r ∧ r < n := by
  obtain ⟨r, hr, h0, h1⟩ := pick_some 0 s p n h hn hn'
  exact ⟨r, Ev.of (fun k => spec_l1Rd_pick.mono _ _ _ k) hr, h0, h1⟩

theorem RdOk.less {s : List Int} {p : Int} {m n : Nat} (h : RdOk s p n) (hm : m ≤ n) : RdOk s p m := ⟨h.1, h.2.1, h.2.2.1, by have := h.2.2.2; omega⟩
theorem one_ev (s : List Int) (p : Int) {m : Nat} (h : RdOk s p (m + 1)) (l : List Int) (hl : l ≠ []) (hl' : l.length ≤ 1000000) : ∃ x ∈ l, Ev (fun k => spec_l1Rd_one.f k s p l) (x, p + 1) := by
  have hpos : 0 < l.length := List.length_pos_iff.2 hl
  obtain ⟨r, hr, h0, h1⟩ := pick_ev s p l.length h (by omega) (by omega)
  refine ⟨rd l r, ?_, ?_⟩
  · unfold rd
    rw [List.getD_eq_getElem?_getD, List.getElem?_eq_getElem (show r.toNat < l.length by omega)]
    exact List.getElem_mem _
  · unfold spec_l1Rd_one.f
    refine ev_bind hr ?_
    simp only [if_pos h0, if_pos h1]
    exact Ev.now _
theorem mod_byte (x : Int) : ∃ c : UInt8, x % 256 = ((c.toNat : Nat) : Int) := by
  refine ⟨UInt8.ofNat (x % 256).toNat, ?_⟩
  have h0 : 0 ≤ x % 256 := Int.emod_nonneg _ (by decide)
  have h1 : x % 256 < 256 := Int.emod_lt_of_pos _ (by decide)
  simp; omega
theorem bytes_l0 (s : List Int) : ∀ (n : Nat) (b : Bs) (p : Int) (m : Nat), b.length + n ≤ 100000 → RdOk s p (2 * n + m) → ∃ b' : Bs, b'.length = b.length + n ∧ Ev (fun k => spec_l11Bytes.l0 k n (ns b) s p) (B b', p + 2 * n) := by
  intro n
  induction n with
  | zero =>
    intro b p m hb h
    refine ⟨b, rfl, ev_1 fun k => ?_⟩
    simp only [spec_l11Bytes.l0]
    rw [if_neg (by omega), str_ns]; simp
  | succ n ih =>
    intro b p m hb h
    have h' : RdOk s p (2 * n + m + 1 + 1) := h.less (by omega)
    obtain ⟨r, hr, r0, r1⟩ := pick_ev s p 256 h' (by omega) (by omega)
    obtain ⟨x, _, hx⟩ := one_ev s _ h'.step [97, 98, 37, 47, 63, 35, 32, 43, 38, 61, 50, 70, 64, 58, 92, 46, 255, 0, 195, r] (by simp) (by simp)
    obtain ⟨c, hc⟩ := mod_byte x
    obtain ⟨b', hl, e⟩ := ih (b ++ [c]) (p + 1 + 1) m (by simp; omega) h'.step.step
    refine ⟨b', by simp at hl; omega, ?_⟩
    refine Ev.step (fun k => by rw [spec_l11Bytes.l0]) ?_
    simp only [if_pos (show ((n + 1 : Nat) : Int) > 0 by omega)]
    refine ev_bind hr ?_
    refine ev_bind hx ?_
    have hlen : (ns b).length < 140737488355328 := by simp; omega
    have hw : wrap64 (((n + 1 : Nat) : Int) - 1) = (n : Int) := by rw [w64 (by omega) (by omega)]; omega
    simp only [if_pos hlen, hc, hw]
    rw [ns_append, ns_one] at e
    have hp : p + 1 + 1 + 2 * (n : Int) = p + 2 * ((n + 1 : Nat) : Int) := by omega
    rw [hp] at e
    exact e
theorem bytes_ev (s : List Int) (n : Nat) (p : Int) (m : Nat) (hn : n ≤ 100000) (h : RdOk s p (2 * n + m)) : ∃ b : Bs, b.length = n ∧ Ev (fun k => spec_l11Bytes.f k s p n) (B b, p + 2 * n) := by
  obtain ⟨b, hb, e⟩ := bytes_l0 s n [] p m (by simpa using hn) h
  exact ⟨b, by simpa using hb, e⟩
theorem RdOk.skip {s : List Int} {p : Int} {m n : Nat} (h : RdOk s p (n + m)) : RdOk s (p + n) m := ⟨h.1, h.2.1, by have := h.2.2.1; omega, by have := h.2.2.2; omega⟩

theorem drawE_some (l0 : List Int) (hb : ∀ x ∈ l0, (Lit.int .u8 x).wf = true) : ∃ (n : Int) (l : Bs), l.length ≤ 1000 ∧ Ev (fun k => spec_DrawEncode.f k l0) (n, B l) := by
  obtain ⟨s, hs, hok⟩ := l1Open_ok l0 hb 3000 (by omega)
  unfold spec_DrawEncode.f
  simp only [hs, Option.bind_some]
  obtain ⟨a, ha, a0, a1⟩ := pick_ev s 0 12 hok (by omega) (by omega)
  obtain ⟨b, hb', b0, b1⟩ := pick_ev s _ 30 hok.step (by omega) (by omega)
  by_cases hz : b = 0
  · obtain ⟨c, hc, c0, c1⟩ := pick_ev s _ 2 hok.step.step (by omega) (by omega)
    obtain ⟨d, hd, d0, d1⟩ := pick_ev s _ 7 hok.step.step.step (by omega) (by omega)
    obtain ⟨q, rfl⟩ := Int.eq_ofNat_of_zero_le c0
    have hw : wrap64 (200 + (q : Int)) = ((200 + q : Nat) : Int) := by rw [w64 (by omega) (by omega)]; rfl
    obtain ⟨y, hy, hye⟩ := bytes_ev s (200 + q) _ 1000 (by omega) (hok.step.step.step.step.less (by omega))
    refine ⟨d, y, by omega, ?_⟩
    refine ev_bind ha ?_
    refine ev_bind hb' ?_
    simp only [if_pos hz]
    refine ev_bind hc ?_
    refine ev_bind hd ?_
    simp only [hw]
    refine ev_bind hye ?_
    exact Ev.now _
  · obtain ⟨d, hd, d0, d1⟩ := pick_ev s _ 7 hok.step.step (by omega) (by omega)
    obtain ⟨q, rfl⟩ := Int.eq_ofNat_of_zero_le a0
    obtain ⟨y, hy, hye⟩ := bytes_ev s q _ 1000 (by omega) (hok.step.step.step.less (by omega))
    refine ⟨d, y, by omega, ?_⟩
    refine ev_bind ha ?_
    refine ev_bind hb' ?_
    simp only [if_neg hz]
    refine ev_bind hd ?_
    refine ev_bind hye ?_
    exact Ev.now _

theorem enc_out (any l : Bs) : ∀ c ∈ enc any l, 32 ≤ c.toNat ∧ c.toNat ≤ 126 := by
  have hf : ∀ n, n < 16 → 32 ≤ (fig n).toNat ∧ (fig n).toNat ≤ 126 := by decide
  intro c hc
  obtain ⟨x, _, hx⟩ := List.mem_flatMap.1 hc
  unfold encC at hx
  split at hx
  · have h1 := tq4 x
    have h2 : x.toNat % 16 < 16 := Nat.mod_lt _ (by decide)
    unfold pct at hx
    simp only [List.mem_cons, List.not_mem_nil, or_false] at hx
    rcases hx with rfl | rfl | rfl
    · decide
    · exact hf _ h1
    · exact hf _ h2
  · rename_i h
    rw [List.mem_singleton.1 hx]
    have h' : needs any x = false := by simpa using h
    unfold needs at h'
    simp only [Bool.or_eq_false_iff, decide_eq_false_iff_not] at h'
    omega
/-- Signs that no set has: the percent sign and the figures. -/
def plainS : Bs := [37, 48, 49, 50, 51, 52, 53, 54, 55, 56, 57, 65, 66, 67, 68, 69, 70, 97, 98, 99, 100, 101, 102]
theorem set_plain (n : Int) (c : UInt8) (h : c ∈ plainS) : needs (setB n) c = false := by
  have hs : ∀ any ∈ ([[32, 34, 35, 60, 62, 63, 96, 123, 125], [32, 34, 35, 60, 62, 39], [32, 34, 60, 62, 96], [32], [32, 34, 35, 60, 62, 63, 96, 123, 125, 47, 58, 59, 61, 64, 91, 92, 93, 94, 124], []] : List Bs), ∀ c ∈ plainS, needs any c = false := by decide
  refine hs (setB n) ?_ c h
  unfold setB
  repeat (first | (split; · simp) | simp)
theorem fig_plain (m : Nat) (h : m < 16) : fig m ∈ plainS := by
  have : ∀ m, m < 16 → fig m ∈ plainS := by decide
  exact this m h
theorem enc_plain (any l : Bs) (h : ∀ c ∈ l, needs any c = false) : enc any l = l := by
  induction l with
  | nil => rfl
  | cons c t ih =>
    have : encC any c = [c] := by unfold encC; rw [if_neg (by rw [h c (by simp)]; simp)]
    show encC any c ++ enc any t = c :: t
    rw [this, ih (fun x hx => h x (by simp [hx]))]; rfl
theorem enc_twice (n : Int) (l : Bs) : enc (setB n) (enc (setB n) l) = enc (setB n) l := by
  refine enc_plain _ _ ?_
  intro c hc
  obtain ⟨x, _, hx⟩ := List.mem_flatMap.1 hc
  unfold encC at hx
  split at hx
  · have h1 := tq4 x
    have h2 : x.toNat % 16 < 16 := Nat.mod_lt _ (by decide)
    unfold pct at hx
    simp only [List.mem_cons, List.not_mem_nil, or_false] at hx
    rcases hx with rfl | rfl | rfl
    · exact set_plain n _ (by decide)
    · exact set_plain n _ (fig_plain _ h1)
    · exact set_plain n _ (fig_plain _ h2)
  · rename_i h
    rw [List.mem_singleton.1 hx]; simpa using h
theorem hex_plain (c : UInt8) (h : 0 ≤ hexI c) : c ∈ plainS := by
  have e : ∀ m : Nat, m < 256 → 0 ≤ hexI (UInt8.ofNat m) → UInt8.ofNat m ∈ plainS := by decide +kernel
  have := e c.toNat c.toNat_lt
  rw [UInt8.ofNat_toNat] at this
  exact this h
theorem fig_hex (m : Nat) (h : m < 16) : hexI (fig m) = (m : Int) := by
  have : ∀ m : Nat, m < 16 → hexI (fig m) = (m : Int) := by decide
  exact this m h
theorem esc_pct (x : UInt8) (t : Bs) : pctDec (pct x ++ t) = x :: pctDec t := by
  have h1 := tq4 x
  have h2 : x.toNat % 16 < 16 := Nat.mod_lt _ (by decide)
  have a1 := fig_hex _ h1
  have a2 := fig_hex _ h2
  show pctDec (37 :: fig (x.toNat / 16) :: fig (x.toNat % 16) :: t) = _
  rw [pctDec, if_pos ⟨rfl, by omega, by omega⟩]
  congr 1
  unfold escByte
  rw [a1, a2]
  have : (16 * ((x.toNat / 16 : Nat) : Int) + ((x.toNat % 16 : Nat) : Int)).toNat = x.toNat := by omega
  rw [this, UInt8.ofNat_toNat]
theorem pctDec_other (c : UInt8) (t : Bs) (h : c ≠ 37) : pctDec (c :: t) = c :: pctDec t := by
  have he : escAt (c :: t) 0 = false := by unfold escAt; simp [h]
  have := decode_at (c :: t) 0 (by simp)
  rw [he] at this
  simpa using this
theorem pctDec_first (t : Bs) (h : hexI (t[0]?.getD 0) < 0) : pctDec (37 :: t) = 37 :: pctDec t := by
  have he : escAt (37 :: t) 0 = false := by
    unfold escAt
    have : decide (0 ≤ hexI ((37 :: t)[0 + 1]?.getD 0)) = false := decide_eq_false (by simpa using h)
    rw [this]; simp
  have := decode_at (37 :: t) 0 (by simp)
  rw [he] at this
  simpa using this
theorem pctDec_second (a : UInt8) (t : Bs) (h : hexI (t[0]?.getD 0) < 0) : pctDec (37 :: a :: t) = 37 :: pctDec (a :: t) := by
  have he : escAt (37 :: a :: t) 0 = false := by
    unfold escAt
    have : decide (0 ≤ hexI ((37 :: a :: t)[0 + 2]?.getD 0)) = false := decide_eq_false (by simpa using h)
    rw [this]; simp
  have := decode_at (37 :: a :: t) 0 (by simp)
  rw [he] at this
  simpa using this
theorem hex37 : hexI 37 < 0 := by decide
/-- The first byte of an encoded text is a percent sign, or the text's own. -/
theorem enc_head (any : Bs) (c : UInt8) (t : Bs) (h : needs any c = true) : (enc any (c :: t))[0]?.getD 0 = 37 := by
  show (encC any c ++ enc any t)[0]?.getD 0 = 37
  unfold encC; rw [if_pos h]; rfl
theorem enc_head' (any : Bs) (c : UInt8) (t : Bs) (h : needs any c = false) : enc any (c :: t) = c :: enc any t := by
  show encC any c ++ enc any t = _
  unfold encC; rw [if_neg (by rw [h]; simp)]; rfl
theorem enc_head1 (any : Bs) (c : UInt8) (t : Bs) (h : needs any c = true) : enc any (c :: t) = pct c ++ enc any t := by
  show encC any c ++ enc any t = _
  unfold encC; rw [if_pos h]
theorem dec_enc (n : Int) (l : Bs) : pctDec (enc (setB n) l) = pctDec l := by
  have p37 : needs (setB n) 37 = false := set_plain n 37 (by decide)
  induction l using pctDec.induct with
  | case1 c a b t h ih =>
    obtain ⟨rfl, ha, hb⟩ := h
    rw [enc_head' _ _ _ p37, enc_head' _ _ _ (set_plain n a (hex_plain a ha)), enc_head' _ _ _ (set_plain n b (hex_plain b hb))]
    rw [pctDec, if_pos ⟨rfl, ha, hb⟩, ih, pctDec, if_pos ⟨rfl, ha, hb⟩]
  | case2 c a b t h ih =>
    have hr : pctDec (c :: a :: b :: t) = c :: pctDec (a :: b :: t) := by rw [pctDec, if_neg h]
    rw [hr]
    by_cases hn : needs (setB n) c = true
    · rw [enc_head1 _ _ _ hn, esc_pct, ih]
    have hn' : needs (setB n) c = false := by simpa using hn
    rw [enc_head' _ _ _ hn']
    by_cases h37 : c = 37
    · subst h37
      by_cases na : needs (setB n) a = true
      · rw [pctDec_first _ (by rw [enc_head _ _ _ na]; exact hex37), ih]
      have na' : needs (setB n) a = false := by simpa using na
      by_cases ha : 0 ≤ hexI a
      · have hb : ¬ 0 ≤ hexI b := fun q => h ⟨rfl, ha, q⟩
        rw [← ih, enc_head' _ a _ na']
        refine pctDec_second a _ ?_
        by_cases nb : needs (setB n) b = true
        · rw [enc_head _ _ _ nb]; exact hex37
        · rw [enc_head' _ _ _ (by simpa using nb)]; simpa using hb
      · rw [← ih]
        refine pctDec_first _ ?_
        rw [enc_head' _ a _ na']; simpa using ha
    · rw [pctDec_other _ _ h37, ih]
  | case3 c t h ih =>
    have hlen : t.length < 2 := by
      match t, h with
      | [], _ => simp
      | [a], _ => simp
      | a :: b :: r, h => exact absurd rfl (h a b r)
    rw [decode_short c t hlen]
    by_cases hn : needs (setB n) c = true
    · rw [enc_head1 _ _ _ hn, esc_pct, ih]
    have hn' : needs (setB n) c = false := by simpa using hn
    rw [enc_head' _ _ _ hn']
    by_cases h37 : c = 37
    · subst h37
      rw [← ih]
      match t, hlen with
      | [], _ => exact pctDec_first _ (by show hexI 0 < 0; decide)
      | [a], _ =>
        by_cases na : needs (setB n) a = true
        · exact pctDec_first _ (by rw [enc_head _ _ _ na]; exact hex37)
        · rw [enc_head' _ _ _ (by simpa using na)]
          exact pctDec_second a _ (by show hexI 0 < 0; decide)
    · rw [pctDec_other _ _ h37, ih]
  | case4 => rfl
theorem law_l0 (n : Int) (l : Bs) (hl : l.length ≤ 60) (d : Nat) : ∀ i : Nat, i + d = (enc (setB n) l).length → Ev (fun k => laws_FnEncode.l0 k n (B l) (B (enc (setB n) l)) i) true := by
  have hel := enc_len (setB n) l
  induction d with
  | zero =>
    intro i hi
    refine ev_1 fun k => ?_
    simp only [laws_FnEncode.l0, B_size]
    rw [if_neg (by omega)]
    have hd : ∀ x : Bs, x.length ≤ 600 → impl_Decode.f (B x) = some (B (pctDec x)) := by
      intro x hx; rw [impl_Decode_some]; unfold decodeMax; rw [if_pos hx]
    have he : encMax n (enc (setB n) l) = enc (setB n) l := by unfold encMax; rw [if_pos (by omega), enc_twice]
    simp only [impl_Encode_some n (enc (setB n) l) (by omega), he, Option.bind_some, if_true, hd _ (show (enc (setB n) l).length ≤ 600 by omega), hd _ (show l.length ≤ 600 by omega), dec_enc]
    rw [decide_eq_true (by omega)]
  | succ d ih =>
    intro i hi
    have hlt : i < (enc (setB n) l).length := by omega
    have hi0 : (0 : Int) ≤ (i : Int) := by omega
    have hi1 : (i : Int) < ((enc (setB n) l).length : Int) := by omega
    have hw : wrap64 ((i : Int) + 1) = ((i + 1 : Nat) : Int) := by rw [w64 (by omega) (by omega)]; rfl
    have ho := enc_out (setB n) l _ (List.getElem_mem hlt)
    refine Ev.step (fun k => by rw [laws_FnEncode.l0]) ?_
    simp only [B_size, bt_B, Int.toNat_natCast, get_eq hlt, if_pos hi0, if_pos hi1, hw]
    simp only [if_neg (show ¬ (((enc (setB n) l)[i].toNat : Nat) : Int) < 32 by omega), if_neg (show ¬ (((enc (setB n) l)[i].toNat : Nat) : Int) > 126 by omega)]
    exact ih (i + 1) (by omega)
theorem FnEncode : laws_FnEncode.Pure := by
  intro l0 _ _ hb
  refine Ev.rounds ?_
  unfold laws_FnEncode.f
  by_cases hl : (l0.length : Int) > 1048576
  · simp only [if_pos hl]; exact Ev.now _
  simp only [if_neg hl]
  obtain ⟨n, l, hn, hd⟩ := drawE_some l0 hb
  refine ev_bind hd ?_
  simp only [impl_Encode_some n l (by omega), Option.bind_some]
  refine ev_bind (spec_Encode_ev n l (by omega)) ?_
  simp only [if_true, B_size]
  refine Ev.step (fun k => by rw [laws_FnEncode.j0]) ?_
  by_cases hs : (l.length : Int) > 60
  · simp only [decide_eq_true hs, if_true]
    refine ev_bind (spec_Encode_ev n l (by omega)) ?_
    simp only [beq_self_eq_true]
    exact Ev.now _
  · simp only [decide_eq_false hs, Bool.false_eq_true, if_false]
    have e3 : encMax n l = enc (setB n) l := by unfold encMax; rw [if_pos (by omega)]
    rw [e3]
    exact law_l0 n l (by omega) (enc (setB n) l).length 0 (by omega)

end Go.Proofs.YtekeimhhffnjpaaDoor.Pure
