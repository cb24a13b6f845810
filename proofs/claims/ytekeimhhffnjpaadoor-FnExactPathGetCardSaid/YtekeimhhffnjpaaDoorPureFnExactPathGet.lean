/- The pure side of the law FnExactPathGet: what the printed functions tell is what the law says, for every input within the law's bounds. -/
import Derived.Test.YtekeimhhffnjpaaDoorPFnExactPathGetx3
import Derived.Test.YtekeimhhffnjpaaDoorBase
import Derived.Test.YtekeimhhffnjpaaDoorHM
import Derived.Test.YtekeimhhffnjpaaDoorHWay
set_option linter.unusedVariables false
set_option linter.unusedSimpArgs false
namespace Go.Proofs.YtekeimhhffnjpaaDoor.Pure
open Go.RowKit Go.Proofs.YtekeimhhffnjpaaDoor.H Go.Proofs.YtekeimhhffnjpaaDoor.PFnExactPathGet Go.Proofs.YtekeimhhffnjpaaDoorW.PrintWords Go.Proofs.YtekeimhhffnjpaaDoorW.PrintLast Go.Proofs.YtekeimhhffnjpaaDoor.Base

theorem spec_Has (any : Bs) (c : UInt8) (h : any.length ≤ 1000000) : Ev (fun k => spec_l1Has.f k (B any) ((c.toNat : Nat) : Int)) (any.contains c) := by
  unfold spec_l1Has.f
  have go : ∀ (d i : Nat), i + d = any.length → Ev (fun k => spec_l1Has.l0 k (B any) ((c.toNat : Nat) : Int) i) ((any.drop i).contains c) := by
    intro d
    induction d with
    | zero =>
      intro i hi
      refine ev_1 fun k => ?_
      simp only [spec_l1Has.l0]
      rw [if_neg (by rw [B_size]; omega), List.drop_eq_nil_of_le (by omega)]; rfl
    | succ d ih =>
      intro i hi
      have hlt : i < any.length := by omega
      refine Ev.step (fun k => by rw [spec_l1Has.l0]) ?_
      have hi0 : (0 : Int) ≤ (i : Int) := by omega
      have hi1 : (i : Int) < (any.length : Int) := by omega
      have hw : wrap64 ((i : Int) + 1) = ((i + 1 : Nat) : Int) := by rw [w64 (by omega) (by omega)]; rfl
      simp only [B_size, bt_B, Int.toNat_natCast, get_eq hlt, if_pos hi0, if_pos hi1, hw]
      rw [List.drop_eq_getElem_cons hlt, List.contains_cons]
      by_cases e : any[i] = c
      · subst e
        simp only [if_true, beq_self_eq_true, Bool.true_or]; exact Ev.now _
      · have e1 : ¬ ((any[i].toNat : Nat) : Int) = ((c.toNat : Nat) : Int) := fun h => e (UInt8.toNat_inj.1 (by omega))
        have e2 : (c == any[i]) = false := by rw [beq_eq_false_iff_ne]; exact fun h => e h.symm
        simp only [if_neg e1, e2, Bool.false_or]; exact ih (i + 1) (by omega)
  have := go any.length 0 (by omega)
  simpa using this
theorem fig_at (n : Nat) (h : n < 16) : bt (⟨#[48, 49, 50, 51, 52, 53, 54, 55, 56, 57, 65, 66, 67, 68, 69, 70]⟩ : ByteArray) ((n : Nat) : Int) = ((fig n).toNat : Int) := by
  have : (⟨#[48, 49, 50, 51, 52, 53, 54, 55, 56, 57, 65, 66, 67, 68, 69, 70]⟩ : ByteArray) = B figs := rfl
  rw [this, bt_B, Int.toNat_natCast]; rfl
theorem spec_Figure (n : Nat) (h : n < 16) : spec_l1Figure.f ((n : Nat) : Int) = some (((fig n).toNat : Nat) : Int) := by
  unfold spec_l1Figure.f
  rw [if_pos (by omega), if_pos (by omega), fig_at n h]
theorem spec_Set (n : Int) : spec_l1Set.f n = some (B (setB n)) := by
  unfold spec_l1Set.f setB
  by_cases h1 : n = 1
  · rw [if_pos h1, if_pos h1]; rfl
  by_cases h2 : n = 2
  · rw [if_neg h1, if_neg h1, if_pos h2, if_pos h2]; rfl
  by_cases h3 : n = 3
  · rw [if_neg h1, if_neg h1, if_neg h2, if_neg h2, if_pos h3, if_pos h3]; rfl
  by_cases h5 : n = 5
  · rw [if_neg h1, if_neg h1, if_neg h2, if_neg h2, if_neg h3, if_neg h3, if_pos h5, if_pos h5]; rfl
  by_cases h4 : n = 4
  · rw [if_neg h1, if_neg h1, if_neg h2, if_neg h2, if_neg h3, if_neg h3, if_neg h5, if_neg h5, if_pos h4, if_pos h4]; rfl
  rw [if_neg h1, if_neg h1, if_neg h2, if_neg h2, if_neg h3, if_neg h3, if_neg h5, if_neg h5, if_neg h4, if_neg h4]; rfl
theorem setB_len (n : Int) : (setB n).length ≤ 1000000 := by
  unfold setB; repeat (first | (split) | (simp))
theorem tq1 (c : UInt8) : Int.tdiv (wrap64 ((c.toNat : Nat) : Int)) 16 = ((c.toNat / 16 : Nat) : Int) := by
  have := lt256 c
  rw [w64 (by omega) (by omega), Int.tdiv_eq_ediv_of_nonneg (by omega)]; rfl
theorem tq2 (c : UInt8) : Int.tmod (wrap64 ((c.toNat : Nat) : Int)) 16 = ((c.toNat % 16 : Nat) : Int) := by
  have := lt256 c
  rw [w64 (by omega) (by omega), Int.tmod_eq_emod_of_nonneg (by omega)]; rfl
theorem tq3 (c : UInt8) : wrap64 ((c.toNat / 16 : Nat) : Int) = ((c.toNat / 16 : Nat) : Int) := by
  have := lt256 c
  exact w64 (by omega) (by omega)
theorem tq4 (c : UInt8) : c.toNat / 16 < 16 := by have := lt256 c; omega
set_option maxHeartbeats 1000000 in
theorem spec_Encode_l0 (any l : Bs) (ha : any.length ≤ 1000000) (hl : l.length ≤ 200) (d : Nat) : ∀ i : Nat, i + d = l.length → Ev (fun k => spec_Encode.l0 k (B l) (ns (enc any (l.take i))) (B any) i) (B (enc any l)) := by
  induction d with
  | zero =>
    intro i hi
    refine Ev.step (fun k => by rw [spec_Encode.l0]) ?_
    simp only [B_size, if_neg (show ¬ (i : Int) < (l.length : Int) by omega)]
    refine ev_1 fun k => ?_
    simp only [spec_Encode.j1, Bool.false_eq_true, if_false, str_ns]
    rw [List.take_of_length_le (by omega)]
  | succ d ih =>
    intro i hi
    have hlt : i < l.length := by omega
    have e := ih (i + 1) (by omega)
    rw [enc_take any l i hlt, ns_append] at e
    have hi0 : (0 : Int) ≤ (i : Int) := by omega
    have hi1 : (i : Int) < (l.length : Int) := by omega
    have hw : wrap64 ((i : Int) + 1) = ((i + 1 : Nat) : Int) := by rw [w64 (by omega) (by omega)]; rfl
    have hel : (enc any (l.take i)).length ≤ 600 := by
      have h1 := (enc_len any (l.take i)).2
      have h2 : (l.take i).length = i := by simp; omega
      omega
    have h255 := lt256 l[i]
    refine Ev.step (fun k => by rw [spec_Encode.l0]) ?_
    simp only [B_size, if_pos hi1, show decide ((l.length : Int) ≤ 200) = true from decide_eq_true (by omega)]
    refine Ev.step (fun k => by rw [spec_Encode.j1]) ?_
    simp only [if_true, B_size, bt_B, Int.toNat_natCast, get_eq hlt, if_pos hi0, if_pos hi1]
    have fin : ∀ b : Bool, needs any l[i] = b → Ev (fun k => spec_Encode.j2 k (B l) (ns (enc any (l.take i))) (B any) i ((l[i].toNat : Nat) : Int) b) (B (enc any l)) := by
      intro b hb
      refine Ev.step (fun k => by rw [spec_Encode.j2]) ?_
      cases b with
      | true =>
        have q1 := tq1 l[i]
        have q2 := tq2 l[i]
        have q3 := tq3 l[i]
        have q4 : l[i].toNat / 16 < 16 := tq4 l[i]
        have q5 : l[i].toNat % 16 < 16 := Nat.mod_lt _ (by decide)
        have hn : encC any l[i] = pct l[i] := by unfold encC; rw [if_pos hb]
        rw [hn] at e
        simp only [if_true, q1, q2, q3, spec_Figure _ q4, spec_Figure _ q5, Option.bind_some, hw]
        simp only [if_pos (show (ns (enc any (l.take i))).length + ([37, ((fig (l[i].toNat / 16)).toNat : Int), ((fig (l[i].toNat % 16)).toNat : Int)] : List Int).length < 140737488355328 by simp; omega)]
        exact e
      | false =>
        have hn : encC any l[i] = [l[i]] := by unfold encC; rw [if_neg (by simp [hb])]
        rw [hn, ns_one] at e
        simp only [Bool.false_eq_true, if_false, if_pos (show (ns (enc any (l.take i))).length < 140737488355328 by simp; omega), hw]
        exact e
    by_cases c1 : ((l[i].toNat : Nat) : Int) < 32
    · simp only [if_pos c1]; exact fin true (by unfold needs; simp; omega)
    · simp only [if_neg c1]
      by_cases c2 : ((l[i].toNat : Nat) : Int) > 126
      · simp only [if_pos c2]; exact fin true (by unfold needs; simp; omega)
      · simp only [if_neg c2]
        refine ev_bind (spec_Has any l[i] ha) ?_
        exact fin _ (by unfold needs; rw [decide_eq_false (show ¬ l[i].toNat < 32 by omega), decide_eq_false (show ¬ 126 < l[i].toNat by omega)]; simp)
theorem spec_Encode_ev (n : Int) (l : Bs) (hl : l.length ≤ 140737488355327) : Ev (fun k => spec_Encode.f k n (B l)) (B (encMax n l)) := by
  unfold spec_Encode.f encMax
  simp only [spec_Set, Option.bind_some]
  by_cases h : l.length ≤ 200
  · rw [if_pos h]
    exact spec_Encode_l0 (setB n) l (setB_len n) h l.length 0 (by omega)
  · rw [if_neg h]
    refine Ev.step (fun k => by rw [spec_Encode.l0]) ?_
    simp only [B_size, if_pos (show (0 : Int) < (l.length : Int) by omega), show decide ((l.length : Int) ≤ 200) = false from decide_eq_false (by omega)]
    refine ev_1 fun k => ?_
    simp only [spec_Encode.j1, Bool.false_eq_true, if_false]
    exact congrArg some (str_ns [])

theorem set_same (n : Int) (c : UInt8) : (setI n).contains c = (setB n).contains c := by
  unfold setI setB
  by_cases h1 : n = 1
  · subst h1
    show List.contains [32, 34, 35, 60, 62, 63, 123, 125, 96] c = List.contains [32, 34, 35, 60, 62, 63, 96, 123, 125] c
    simp only [List.contains_cons, List.contains_nil]
    ac_rfl
  by_cases h2 : n = 2
  · subst h2; rfl
  by_cases h3 : n = 3
  · subst h3; rfl
  by_cases h4 : n = 4
  · subst h4
    show List.contains [32, 34, 35, 60, 62, 63, 123, 125, 96, 47, 58, 59, 61, 64, 91, 92, 93, 94, 124] c = List.contains [32, 34, 35, 60, 62, 63, 96, 123, 125, 47, 58, 59, 61, 64, 91, 92, 93, 94, 124] c
    simp only [List.contains_cons, List.contains_nil]
    ac_rfl
  by_cases h5 : n = 5
  · subst h5; rfl
  rw [if_neg (by omega), if_neg h1, if_neg h2, if_neg h3, if_neg h5, if_neg h4]
theorem enc_same (n : Int) (l : Bs) : enc (setI n) l = enc (setB n) l := by
  have : encC (setI n) = encC (setB n) := by funext c; unfold encC needs; rw [set_same]
  unfold enc; rw [this]

theorem enc_out (any l : Bs) : ∀ c ∈ enc any l, 32 ≤ c.toNat ∧ c.toNat ≤ 126 := by
  have hf : ∀ n, n < 16 → 32 ≤ (fig n).toNat ∧ (fig n).toNat ≤ 126 := by decide
  intro c hc
  obtain ⟨x, _, hx⟩ := List.mem_flatMap.1 hc
  unfold encC at hx
  split at hx
  · have h1 := tq4 x
    have h2 : x.toNat % 16 < 16 := Nat.mod_lt _ (by decide)
    unfold pct at hx
    simp only [List.mem_cons, List.not_mem_nil, or_false] at hx
    rcases hx with rfl | rfl | rfl
    · decide
    · exact hf _ h1
    · exact hf _ h2
  · rename_i h
    rw [List.mem_singleton.1 hx]
    have h' : needs any x = false := by simpa using h
    unfold needs at h'
    simp only [Bool.or_eq_false_iff, decide_eq_false_iff_not] at h'
    omega
/-- Signs that no set has: the percent sign and the figures. -/
def plainS : Bs := [37, 48, 49, 50, 51, 52, 53, 54, 55, 56, 57, 65, 66, 67, 68, 69, 70, 97, 98, 99, 100, 101, 102]
theorem set_plain (n : Int) (c : UInt8) (h : c ∈ plainS) : needs (setB n) c = false := by
  have hs : ∀ any ∈ ([[32, 34, 35, 60, 62, 63, 96, 123, 125], [32, 34, 35, 60, 62, 39], [32, 34, 60, 62, 96], [32], [32, 34, 35, 60, 62, 63, 96, 123, 125, 47, 58, 59, 61, 64, 91, 92, 93, 94, 124], []] : List Bs), ∀ c ∈ plainS, needs any c = false := by decide
  refine hs (setB n) ?_ c h
  unfold setB
  repeat (first | (split; · simp) | simp)
theorem fig_plain (m : Nat) (h : m < 16) : fig m ∈ plainS := by
  have : ∀ m, m < 16 → fig m ∈ plainS := by decide
  exact this m h
theorem enc_plain (any l : Bs) (h : ∀ c ∈ l, needs any c = false) : enc any l = l := by
  induction l with
  | nil => rfl
  | cons c t ih =>
    have : encC any c = [c] := by unfold encC; rw [if_neg (by rw [h c (by simp)]; simp)]
    show encC any c ++ enc any t = c :: t
    rw [this, ih (fun x hx => h x (by simp [hx]))]; rfl
theorem enc_twice (n : Int) (l : Bs) : enc (setB n) (enc (setB n) l) = enc (setB n) l := by
  refine enc_plain _ _ ?_
  intro c hc
  obtain ⟨x, _, hx⟩ := List.mem_flatMap.1 hc
  unfold encC at hx
  split at hx
  · have h1 := tq4 x
    have h2 : x.toNat % 16 < 16 := Nat.mod_lt _ (by decide)
    unfold pct at hx
    simp only [List.mem_cons, List.not_mem_nil, or_false] at hx
    rcases hx with rfl | rfl | rfl
    · exact set_plain n _ (by decide)
    · exact set_plain n _ (fig_plain _ h1)
    · exact set_plain n _ (fig_plain _ h2)
  · rename_i h
    rw [List.mem_singleton.1 hx]; simpa using h

theorem impl_Lower_some (l : Bs) (h : l.length ≤ 140737488355328) : impl_Lower.f (B l) = some (B (lower l)) := by
  unfold impl_Lower.f; rw [if_pos (by simpa using h), B_data]
theorem lower_length (l : Bs) : (lower l).length = l.length := by simp [lower]
theorem spec_Lower_l0 (l : Bs) (hl : l.length ≤ 140737488355327) (d : Nat) : ∀ i : Nat, i + d = l.length → Ev (fun k => spec_Lower.l0 k (B l) (ns ((l.take i).map lowB)) i) (B (lower l)) := by
  induction d with
  | zero =>
    intro i hi
    refine ev_1 fun k => ?_
    simp only [spec_Lower.l0]
    rw [if_neg (by rw [B_size]; omega), str_ns, List.take_of_length_le (by omega)]; rfl
  | succ d ih =>
    intro i hi
    have hlt : i < l.length := by omega
    have e := ih (i + 1) (by omega)
    rw [List.take_succ_eq_append_getElem hlt, List.map_append, List.map_singleton, ns_append, ns_one] at e
    refine Ev.step (fun k => by rw [spec_Lower.l0]) ?_
    have hi0 : (0 : Int) ≤ (i : Int) := by omega
    have hi1 : (i : Int) < (l.length : Int) := by omega
    have hln : (ns ((l.take i).map lowB)).length < 140737488355328 := by simp; omega
    have hw : wrap64 ((i : Int) + 1) = ((i + 1 : Nat) : Int) := by rw [w64 (by omega) (by omega)]; rfl
    simp only [B_size, bt_B, Int.toNat_natCast, get_eq hlt, if_pos hi0, if_pos hi1, if_pos hln, hw]
    have h1 := lt256 l[i]
    by_cases c1 : ((l[i].toNat : Nat) : Int) ≥ 65
    · by_cases c2 : ((l[i].toNat : Nat) : Int) ≤ 90
      · have : ((lowB l[i]).toNat : Int) = (((l[i].toNat : Nat) : Int) + 32) % 256 := by
          unfold lowB; rw [if_pos (by omega)]; simp
        simp only [if_pos c1, if_pos c2, ← this]; exact e
      · have : lowB l[i] = l[i] := by unfold lowB; rw [if_neg (by omega)]
        rw [this] at e
        simp only [if_pos c1, if_neg c2]; exact e
    · have : lowB l[i] = l[i] := by unfold lowB; rw [if_neg (by omega)]
      rw [this] at e
      simp only [if_neg c1]; exact e
theorem spec_Lower_ev (l : Bs) (hl : l.length ≤ 140737488355327) : Ev (fun k => spec_Lower.f k (B l)) (B (lower l)) := by
  unfold spec_Lower.f
  have := spec_Lower_l0 l hl l.length 0 (by omega)
  simpa [ns] using this

/-- A text with each %2e as a point. -/
def rp (x : Bs) : Bs := replA [37, 50, 101] [46] x
theorem rp_hit (t : Bs) : rp (37 :: 50 :: 101 :: t) = 46 :: rp t := by
  unfold rp; rw [replA_hit (by simp [List.isPrefixOf])]; rfl
theorem rp_miss (c : UInt8) (t : Bs) (h : ¬ ∃ r, c :: t = 37 :: 50 :: 101 :: r) : rp (c :: t) = c :: rp t := by
  unfold rp
  refine replA_miss ?_
  cases hp : List.isPrefixOf [37, 50, 101] (c :: t) with
  | false => rfl
  | true =>
    obtain ⟨r, hr⟩ := List.isPrefixOf_iff_prefix.1 hp
    exact absurd ⟨r, hr.symm⟩ h
theorem rp_nil : rp [] = [] := replA_nil _ _
theorem rp_empty (x : Bs) : rp x = [] ↔ x = [] := by
  constructor
  · intro h
    cases x with
    | nil => rfl
    | cons c t =>
      by_cases e : ∃ r, c :: t = 37 :: 50 :: 101 :: r
      · obtain ⟨r, hr⟩ := e; rw [hr, rp_hit] at h; cases h
      · rw [rp_miss c t e] at h; cases h
  · rintro rfl; exact rp_nil
theorem rp_inv (x r : Bs) : rp x = 46 :: r ↔ (∃ t, x = 46 :: t ∧ rp t = r) ∨ (∃ t, x = 37 :: 50 :: 101 :: t ∧ rp t = r) := by
  constructor
  · intro h
    cases x with
    | nil => rw [rp_nil] at h; cases h
    | cons c t =>
      by_cases e : ∃ r, c :: t = 37 :: 50 :: 101 :: r
      · obtain ⟨q, hq⟩ := e
        rw [hq, rp_hit] at h
        exact Or.inr ⟨q, hq, (List.cons.inj h).2⟩
      · rw [rp_miss c t e] at h
        exact Or.inl ⟨t, by rw [(List.cons.inj h).1], (List.cons.inj h).2⟩
  · rintro (⟨t, rfl, rfl⟩ | ⟨t, rfl, rfl⟩)
    · exact rp_miss 46 t (by rintro ⟨q, hq⟩; cases hq)
    · exact rp_hit t
theorem rp_one (x : Bs) : rp x = [46] ↔ x = [46] ∨ x = [37, 50, 101] := by
  rw [rp_inv]
  constructor
  · rintro (⟨t, rfl, ht⟩ | ⟨t, rfl, ht⟩) <;> rw [rp_empty] at ht <;> subst ht <;> simp
  · rintro (rfl | rfl)
    · exact Or.inl ⟨[], rfl, rp_nil⟩
    · exact Or.inr ⟨[], rfl, rp_nil⟩
theorem rp_two (x : Bs) : rp x = [46, 46] ↔ x = [46, 46] ∨ x = [46, 37, 50, 101] ∨ x = [37, 50, 101, 46] ∨ x = [37, 50, 101, 37, 50, 101] := by
  rw [rp_inv]
  constructor
  · rintro (⟨t, rfl, ht⟩ | ⟨t, rfl, ht⟩) <;> rw [rp_one] at ht <;> rcases ht with rfl | rfl <;> simp
  · rintro (rfl | rfl | rfl | rfl)
    · exact Or.inl ⟨_, rfl, (rp_one _).2 (Or.inl rfl)⟩
    · exact Or.inl ⟨_, rfl, (rp_one _).2 (Or.inr rfl)⟩
    · exact Or.inr ⟨_, rfl, (rp_one _).2 (Or.inl rfl)⟩
    · exact Or.inr ⟨_, rfl, (rp_one _).2 (Or.inr rfl)⟩
theorem dots_rp (s : Bs) : dotsN s = if rp (lower s) = [46] then 1 else if rp (lower s) = [46, 46] then 2 else 0 := rfl
theorem dots_cases (s : Bs) : dotsN s = 0 ∨ dotsN s = 1 ∨ dotsN s = 2 := by
  unfold dotsN; split
  · simp
  · split <;> simp
theorem dots_nil : dotsN [] = 0 := by decide +kernel
/-- The bytes that a path writes as escapes. -/
abbrev pS : Bs := setB 1
theorem lower_cons (c : UInt8) (t : Bs) : lower (c :: t) = lowB c :: lower t := rfl
theorem low_fig (n : Nat) (h : n < 16) (c : UInt8) : (lowB (fig n) = 50 → n = 2) ∧ (lowB (fig n) = 101 → n = 14) := by
  have : ∀ n, n < 16 → (lowB (fig n) = 50 → n = 2) ∧ (lowB (fig n) = 101 → n = 14) := by decide +kernel
  exact this n h
theorem low_50 (c : UInt8) (h : lowB c = 50) : c = 50 := by
  have : ∀ m : Nat, m < 256 → lowB (UInt8.ofNat m) = 50 → UInt8.ofNat m = 50 := by decide +kernel
  have e := this c.toNat c.toNat_lt
  rw [UInt8.ofNat_toNat] at e; exact e h
theorem low_101 (c : UInt8) (h : lowB c = 101) : c = 101 ∨ c = 69 := by
  have : ∀ m : Nat, m < 256 → lowB (UInt8.ofNat m) = 101 → UInt8.ofNat m = 101 ∨ UInt8.ofNat m = 69 := by decide +kernel
  have e := this c.toNat c.toNat_lt
  rw [UInt8.ofNat_toNat] at e; exact e h
theorem enc_yes (c : UInt8) (t : Bs) (h : needs pS c = true) : enc pS (c :: t) = 37 :: fig (c.toNat / 16) :: fig (c.toNat % 16) :: enc pS t := by
  show encC pS c ++ enc pS t = _
  unfold encC; rw [if_pos h]; rfl
theorem enc_no (c : UInt8) (t : Bs) (h : needs pS c = false) : enc pS (c :: t) = c :: enc pS t := by
  show encC pS c ++ enc pS t = _
  unfold encC; rw [if_neg (by rw [h]; simp)]; rfl
theorem pS46 : needs pS 46 = false := by decide
theorem pS37 : needs pS 37 = false := by decide
/-- An encoded text that reads as points all through was no other before. -/
theorem enc_points (n : Nat) : ∀ s : Bs, s.length ≤ n → 37 ∉ rp (lower (enc pS s)) → enc pS s = s := by
  induction n with
  | zero =>
    intro s hs _
    cases s with
    | nil => rfl
    | cons c t => simp at hs
  | succ n ih =>
    intro s hs h
    cases s with
    | nil => rfl
    | cons c t =>
      have ht : t.length ≤ n := by simpa using hs
      by_cases hn : needs pS c = true
      · exfalso
        rw [enc_yes c t hn] at h
        have l37 : lowB 37 = 37 := by decide
        rw [lower_cons, lower_cons, lower_cons, l37] at h
        by_cases e : ∃ r, (37 : UInt8) :: lowB (fig (c.toNat / 16)) :: lowB (fig (c.toNat % 16)) :: lower (enc pS t) = 37 :: 50 :: 101 :: r
        · obtain ⟨r, hr⟩ := e
          have h1 := (List.cons.inj (List.cons.inj hr).2).1
          have h2 := (List.cons.inj (List.cons.inj (List.cons.inj hr).2).2).1
          have hlt := c.toNat_lt
          have a1 := (low_fig _ (by omega) c).1 h1
          have a2 := (low_fig _ (Nat.mod_lt _ (by decide)) c).2 h2
          have hc : c = 46 := by
            have : c.toNat = 46 := by omega
            rw [← UInt8.ofNat_toNat (x := c), this]; rfl
          rw [hc, pS46] at hn; cases hn
        · rw [rp_miss _ _ e] at h; exact h (List.mem_cons_self)
      · have hn' : needs pS c = false := by simpa using hn
        rw [enc_no c t hn'] at h ⊢
        rw [lower_cons] at h
        by_cases e : ∃ r, lowB c :: lower (enc pS t) = 37 :: 50 :: 101 :: r
        · obtain ⟨r, hr⟩ := e
          rw [hr, rp_hit] at h
          have h1 := (List.cons.inj hr).2
          have hr' : 37 ∉ rp r := fun q => h (List.mem_cons_of_mem _ q)
          cases t with
          | nil => cases h1
          | cons a t1 =>
            by_cases na : needs pS a = true
            · rw [enc_yes a t1 na] at h1
              have : lowB 37 = (50 : UInt8) := (List.cons.inj h1).1
              exact absurd this (by decide)
            · have na' : needs pS a = false := by simpa using na
              rw [enc_no a t1 na'] at h1 ⊢
              rw [lower_cons] at h1
              have h2 := (List.cons.inj h1).2
              cases t1 with
              | nil => cases h2
              | cons b t2 =>
                by_cases nb : needs pS b = true
                · rw [enc_yes b t2 nb] at h2
                  have : lowB 37 = (101 : UInt8) := (List.cons.inj h2).1
                  exact absurd this (by decide)
                · have nb' : needs pS b = false := by simpa using nb
                  rw [enc_no b t2 nb'] at h2 ⊢
                  rw [lower_cons] at h2
                  have h3 : lower (enc pS t2) = r := (List.cons.inj h2).2
                  rw [ih t2 (by simp at ht; omega) (by rw [h3]; exact hr')]
        · rw [rp_miss _ _ e] at h
          rw [ih t ht (fun q => h (List.mem_cons_of_mem _ q))]
theorem dots_enc (s : Bs) (h : dotsN s = 0) : dotsN (enc pS s) = 0 := by
  have key : 37 ∉ rp (lower (enc pS s)) → dotsN (enc pS s) = 0 := fun q => by rw [enc_points s.length s (Nat.le_refl _) q]; exact h
  rcases dots_cases (enc pS s) with h0 | h0 | h0
  · exact h0
  all_goals
    refine key ?_
    rw [dots_rp] at h0
    split at h0
    · rename_i e; rw [e]; decide
    · split at h0
      · rename_i e; rw [e]; decide
      · cases h0

theorem spec_Dots (s : Bs) (hs : s.length ≤ 1000000) : Ev (fun k => spec_l3Dots.f k (B s)) (dotsN s) := by
  unfold spec_l3Dots.f
  refine ev_bind (spec_Lower_ev s (by omega)) ?_
  rw [dots_rp]
  by_cases h1 : lower s = [46]
  · simp only [B_toList, if_pos h1]
    refine ev_1 fun k => ?_
    have e1 : rp (lower s) = [46] := (rp_one _).2 (Or.inl h1)
    rw [if_pos e1]
    simp only [spec_l3Dots.j0, h1, beq_self_eq_true, if_true]
  simp only [B_toList, if_neg h1]
  by_cases h2 : lower s = [37, 50, 101]
  · refine ev_1 fun k => ?_
    have e1 : rp (lower s) = [46] := (rp_one _).2 (Or.inr h2)
    rw [if_pos e1]
    simp only [spec_l3Dots.j0, h2, beq_self_eq_true, if_true]
  have e1 : ¬ rp (lower s) = [46] := by rw [rp_one]; simp [h1, h2]
  rw [if_neg e1]
  refine ev_1 fun k => ?_
  simp only [spec_l3Dots.j0, B_toList, show (lower s == ([37, 50, 101] : Bs)) = false by simpa using h2, Bool.false_eq_true, if_false]
  by_cases h3 : lower s = [46, 46]
  · rw [if_pos h3, if_pos ((rp_two _).2 (by simp [h3]))]
  rw [if_neg h3]
  by_cases h4 : lower s = [46, 37, 50, 101]
  · rw [if_pos h4, if_pos ((rp_two _).2 (by simp [h4]))]
  rw [if_neg h4]
  by_cases h5 : lower s = [37, 50, 101, 46]
  · rw [if_pos h5, if_pos ((rp_two _).2 (by simp [h5]))]
  rw [if_neg h5]
  by_cases h6 : lower s = [37, 50, 101, 37, 50, 101]
  · rw [if_pos h6, if_pos ((rp_two _).2 (by simp [h6]))]
  rw [if_neg h6, if_neg (by rw [rp_two]; simp [h3, h4, h5, h6])]

theorem rd_map (ps : List Bs) (i : Nat) (h : i < ps.length) : rdOf ByteArray.empty (ps.map B) ((i : Nat) : Int) = B ps[i] := by
  unfold rdOf
  rw [Int.toNat_natCast, List.getD_eq_getElem?_getD]
  simp [List.getElem?_map, List.getElem?_eq_getElem h]
theorem spec_Walk_l0 (ps : List Bs) (hl : ps.length ≤ 1000000) (hp : ∀ s ∈ ps, s.length ≤ 200) (d : Nat) : ∀ (i : Nat) (out : List Bs), i + d = ps.length → out.length ≤ i → Ev (fun k => spec_l3Walk.l0 k (ps.map B) (out.map B) i) ((walkL pS out (ps.drop i)).map B) := by
  induction d with
  | zero =>
    intro i out hi ho
    refine ev_1 fun k => ?_
    simp only [spec_l3Walk.l0, List.length_map]
    rw [if_neg (by omega), List.drop_eq_nil_of_le (by omega)]; rfl
  | succ d ih =>
    intro i out hi ho
    have hlt : i < ps.length := by omega
    have hi0 : (0 : Int) ≤ (i : Int) := by omega
    have hi1 : (i : Int) < (ps.length : Int) := by omega
    have hw : wrap64 ((i : Int) + 1) = ((i + 1 : Nat) : Int) := by rw [w64 (by omega) (by omega)]; rfl
    have hs := hp ps[i] (List.getElem_mem hlt)
    have hlast : ((i : Int) == wrap64 ((ps.length : Int) - 1)) = decide (i + 1 = ps.length) := by
      rw [w64 (by omega) (by omega)]
      apply bool_eq; rw [beq_iff_eq, decide_eq_true_eq]; omega
    rw [walkL_at pS out ps i hlt]
    have j2 : ∀ (o : List Bs) (n : Int), o.length ≤ i → Ev (fun k => spec_l3Walk.j2 k (ps.map B) (o.map B) i (decide (i + 1 = ps.length)) n) ((walkL pS (if n = 0 then o ++ [enc pS ps[i]] else o ++ (if decide (i + 1 = ps.length) = true then [[]] else [])) (ps.drop (i + 1))).map B) := by
      intro o n ho
      have hln : (o.map B).length < 8796093022208 := by rw [List.length_map]; omega
      refine Ev.step (fun k => by rw [spec_l3Walk.j2]) ?_
      simp only [List.length_map, if_pos hi0, if_pos hi1, rd_map ps i hlt, hw]
      rw [List.length_map] at hln
      by_cases c : n = 0
      · simp only [if_pos c]
        refine ev_bind (spec_Encode_ev 1 ps[i] (by omega)) ?_
        have e : encMax 1 ps[i] = enc pS ps[i] := by unfold encMax; rw [if_pos hs]
        simp only [if_pos hln, e]
        have := ih (i + 1) (o ++ [enc pS ps[i]]) (by omega) (by simp; omega)
        rw [List.map_append] at this
        exact this
      · simp only [if_neg c]
        by_cases c2 : i + 1 = ps.length
        · simp only [c2, decide_true, if_true, if_pos hln]
          have := ih (i + 1) (o ++ [[]]) (by omega) (by simp; omega)
          rw [List.map_append, c2] at this
          exact this
        · simp only [decide_eq_false c2, Bool.false_eq_true, if_false, List.append_nil]
          exact ih (i + 1) o (by omega) (by omega)
    refine Ev.step (fun k => by rw [spec_l3Walk.l0]) ?_
    simp only [List.length_map, if_pos hi0, if_pos hi1, rd_map ps i hlt, hlast]
    refine ev_bind (spec_Dots ps[i] (by omega)) ?_
    have hS : walkS pS out ps[i] (decide (i + 1 = ps.length)) = if dotsN ps[i] = 0 then out ++ [enc pS ps[i]] else (if dotsN ps[i] = 2 ∧ 0 < out.length then out.dropLast else out) ++ (if decide (i + 1 = ps.length) = true then [[]] else []) := rfl
    rw [hS]
    generalize dotsN ps[i] = n
    by_cases c : n = 2
    · subst c
      rw [if_neg (show ¬ (2 : Int) = 0 by decide)]
      simp only [if_true, true_and]
      by_cases c2 : out.length = 0
      · simp only [decide_eq_false (show ¬ (out.length : Int) > 0 by omega)]
        refine Ev.step (fun k => by rw [spec_l3Walk.j1]) ?_
        simp only [Bool.false_eq_true, if_false]
        have := j2 out 2 ho
        rw [if_neg (by decide)] at this
        rw [if_neg (show ¬ (0 < out.length) by omega)]
        exact this
      · simp only [decide_eq_true (show (out.length : Int) > 0 by omega)]
        refine Ev.step (fun k => by rw [spec_l3Walk.j1]) ?_
        have hw1 : wrap64 ((out.length : Int) - 1) = ((out.length - 1 : Nat) : Int) := by rw [w64 (by omega) (by omega)]; omega
        simp only [if_true, List.length_map, hw1, Int.toNat_natCast, if_pos (show (0 : Int) ≤ ((out.length - 1 : Nat) : Int) by omega), if_pos (show ((out.length - 1 : Nat) : Int) ≤ (out.length : Int) by omega)]
        rw [← List.map_take, ← List.dropLast_eq_take]
        have := j2 out.dropLast 2 (by simp; omega)
        rw [if_neg (by decide)] at this
        rw [if_pos (show 0 < out.length by omega)]
        exact this
    · simp only [if_neg c]
      refine Ev.step (fun k => by rw [spec_l3Walk.j1]) ?_
      simp only [Bool.false_eq_true, if_false]
      have := j2 out n ho
      rw [if_neg (show ¬ (n = 2 ∧ 0 < out.length) from fun q => c q.1)]
      exact this
theorem spec_Walk (ps : List Bs) (hl : ps.length ≤ 1000000) (hp : ∀ s ∈ ps, s.length ≤ 200) : Ev (fun k => spec_l3Walk.f k [] (ps.map B)) ((walkL pS [] ps).map B) := by
  unfold spec_l3Walk.f
  simp only [Option.bind_some, List.length_nil, List.append_nil, if_pos (show 0 + 0 < 8796093022208 by decide)]
  have := spec_Walk_l0 ps hl hp ps.length 0 [] (by omega) (by simp)
  simpa using this

theorem walkL_same : ∀ (ps out : List Bs), walkL (setI 1) out ps = walkL pS out ps
  | [], _ => rfl
  | s :: t, out => by
    have e : walkS (setI 1) out s t.isEmpty = walkS pS out s t.isEmpty := by unfold walkS; rw [enc_same]
    rw [walkL, walkL, e, walkL_same t]
theorem impl_Path (l : Bs) : impl_PathGet.f (B l) = some ((pathB pS l).map B) := by
  unfold impl_PathGet.f
  rw [B_data]
  unfold pathB
  rw [walkL_same]
theorem pieces_each (l : Bs) : ∀ s ∈ pieces l, s.length ≤ l.length := by
  intro s hs
  have := splitC_each 47 (swapC 92 47 l) s hs
  rw [swapC_length] at this; exact this
theorem pieces_len (l : Bs) : (pieces l).length ≤ l.length + 1 := by
  have h1 := splitC_length 47 (swapC 92 47 l)
  have h2 := List.count_le_length (a := (47 : UInt8)) (l := swapC 92 47 l)
  rw [swapC_length] at h2
  unfold pieces; omega
theorem spec_Path (l : Bs) : Ev (fun k => spec_PathGet.f k (B l)) ((pathB pS l).map B) := by
  unfold spec_PathGet.f
  by_cases hl : l.length ≤ 200
  · have hol := offSlash_len l
    have hw := spec_Walk (pieces (offSlash l)) (by have := pieces_len (offSlash l); omega) (fun s hs => by have := pieces_each (offSlash l) s hs; omega)
    have hp : spec_l3Pieces.f (B (offSlash l)) = some ((pieces (offSlash l)).map B) := by
      unfold spec_l3Pieces.f; rw [if_pos (by rw [B_size]; omega), B_data]
    have hr : pathB pS l = walkL pS [] (pieces (offSlash l)) := by unfold pathB; rw [if_pos hl]
    rw [hr]
    simp only [B_size, if_neg (show ¬ (l.length : Int) > 200 by omega)]
    cases l with
    | nil =>
      simp only [List.length_nil, if_neg (show ¬ ((0 : Nat) : Int) > 0 by omega)]
      refine Ev.step (fun k => by rw [spec_PathGet.j0]) ?_
      simp only [Bool.false_eq_true, if_false]
      have e0 : offSlash [] = [] := rfl
      rw [e0] at hp hw ⊢
      simp only [hp, Option.bind_some]
      refine ev_bind hw ?_
      exact Ev.now _
    | cons c t =>
      have hbt : bt (B (c :: t)) 0 = ((c.toNat : Nat) : Int) := by rw [bt_B]; rfl
      simp only [hbt, List.length_cons, if_pos (show ((t.length + 1 : Nat) : Int) > 0 by omega), if_pos (show (0 : Int) < ((t.length + 1 : Nat) : Int) by omega)]
      have fin : ∀ b : Bool, b = isSl c → Ev (fun k => spec_PathGet.j0 k (B (c :: t)) b) ((walkL pS [] (pieces (offSlash (c :: t)))).map B) := by
        intro b hb
        refine Ev.step (fun k => by rw [spec_PathGet.j0]) ?_
        cases b with
        | true =>
          have e0 : offSlash (c :: t) = t := by show (if isSl c = true then t else c :: t) = t; rw [← hb, if_pos rfl]
          rw [e0] at hp hw ⊢
          have e1 : (B (c :: t)).extract 1 (t.length + 1) = B t := by
            rw [B_extract, List.drop_one, List.tail_cons, List.take_of_length_le (by omega)]
          simp only [if_true, B_size, List.length_cons, if_pos (show (1 : Int) ≤ ((t.length + 1 : Nat) : Int) by omega), e1, hp, Option.bind_some]
          refine ev_bind hw ?_
          exact Ev.now _
        | false =>
          have e0 : offSlash (c :: t) = c :: t := by show (if isSl c = true then t else c :: t) = c :: t; rw [← hb, if_neg (by simp)]
          rw [e0] at hp hw ⊢
          simp only [Bool.false_eq_true, if_false, hp, Option.bind_some]
          refine ev_bind hw ?_
          exact Ev.now _
      by_cases c1 : c = 47
      · simp only [if_pos (show ((c.toNat : Nat) : Int) = 47 from (byte_eq _ 47 (by decide)).2 c1)]
        exact fin true (by rw [c1]; rfl)
      · simp only [if_neg (show ¬ ((c.toNat : Nat) : Int) = 47 from fun e => c1 ((byte_eq _ 47 (by decide)).1 e))]
        refine fin _ ?_
        have e1 : (c == 47) = false := by simpa using c1
        unfold isSl
        rw [e1, Bool.false_or]
        apply bool_eq; rw [beq_iff_eq, beq_iff_eq]
        exact byte_eq c 92 (by decide)
  · have hr : pathB pS l = [] := by unfold pathB; rw [if_neg hl]
    rw [hr]
    simp only [B_size, if_pos (show (l.length : Int) > 200 by omega)]
    exact Ev.now _

def tot (l : List ByteArray) : Nat := (l.map ByteArray.size).sum
theorem tot_take (l : List ByteArray) (i : Nat) (h : i < l.length) : tot (l.take (i + 1)) = tot (l.take i) + l[i].size := by
  unfold tot; rw [List.take_succ_eq_append_getElem h, List.map_append, List.sum_append]; simp
theorem tot_take_le (l : List ByteArray) (i : Nat) : tot (l.take i) ≤ tot l := by
  conv => rhs; rw [← List.take_append_drop i l]
  unfold tot; rw [List.map_append, List.sum_append]; omega
theorem rd_strs (l : List ByteArray) (i : Nat) (h : i < l.length) : rdOf ByteArray.empty l ((i : Nat) : Int) = l[i] := by
  unfold rdOf
  rw [Int.toNat_natCast, List.getD_eq_getElem?_getD, List.getElem?_eq_getElem h]; rfl

theorem eq_strs (l : List ByteArray) (hl : l.length ≤ 1048576) : Ev (fun k => laws_eqStringS.f k l l) true := by
  unfold laws_eqStringS.f
  simp only [if_true]
  have go : ∀ (d i : Nat), i + d = l.length → Ev (fun k => laws_eqStringS.l0 k l l i) true := by
    intro d
    induction d with
    | zero =>
      intro i hi
      refine ev_1 fun k => ?_
      simp only [laws_eqStringS.l0]; rw [if_neg (by omega)]
    | succ d ih =>
      intro i hi
      have hlt : i < l.length := by omega
      have hi0 : (0 : Int) ≤ (i : Int) := by omega
      have hi1 : (i : Int) < (l.length : Int) := by omega
      have hw : wrap64 ((i : Int) + 1) = ((i + 1 : Nat) : Int) := by rw [w64 (by omega) (by omega)]; rfl
      refine Ev.step (fun k => by rw [laws_eqStringS.l0]) ?_
      simp only [if_pos hi1, if_pos hi0, if_true, hw]
      exact ih (i + 1) (by omega)
  exact go l.length 0 (by omega)

open Go.Proofs.YtekeimhhffnjpaaDoor.HS
theorem markP_l0 (n : Nat) : ∀ acc : Bs, n ≤ 1099511627776 → acc.length + n ≤ 2199023255552 → Ev (fun k => laws_markText.l0 k (n : Int) (B acc)) (B (109 :: (dz n ++ acc))) := by
  induction n using Nat.strongRecOn with
  | _ n ih =>
    intro acc hn hl
    refine Ev.step (fun k => by rw [laws_markText.l0]) ?_
    by_cases h : 0 < n
    · have e1 : wrap64 (Int.tdiv (n : Int) 10) = ((n / 10 : Nat) : Int) := by
        rw [Int.tdiv_eq_ediv_of_nonneg (by omega), w64 (by omega) (by omega)]; rfl
      have e2 : Int.tmod (n : Int) 10 = ((n % 10 : Nat) : Int) := by rw [Int.tmod_eq_emod_of_nonneg (by omega)]; rfl
      have e3 : strOfNums [wrap64 (48 + ((n % 10 : Nat) : Int)) % 256] = B [UInt8.ofNat (48 + n % 10)] := by
        have e : wrap64 (48 + ((n % 10 : Nat) : Int)) % 256 = (((UInt8.ofNat (48 + n % 10)).toNat : Nat) : Int) := by
          rw [w64 (by omega) (by omega)]; simp
        rw [e]
        exact str_ns [UInt8.ofNat (48 + n % 10)]
      simp only [if_pos (show (n : Int) > 0 by omega), e1, e2, e3, Option.bind_some, B_size, B_append, List.length_singleton]
      simp only [if_pos (show 1 + acc.length ≤ 9223372036854775807 by omega)]
      have := ih (n / 10) (by omega) ([UInt8.ofNat (48 + n % 10)] ++ acc) (by omega) (by simp; omega)
      rw [dz_step n h, List.append_assoc]
      exact this
    · have k109 : (⟨#[109]⟩ : ByteArray) = B [109] := rfl
      obtain rfl : n = 0 := by omega
      simp only [if_neg (show ¬ ((0 : Nat) : Int) > 0 by omega), k109, B_size, B_append, if_pos (show 1 + acc.length ≤ 9223372036854775807 by omega)]
      exact Ev.now _
theorem markP_ev (n : Nat) (h0 : 0 < n) (hn : n ≤ 1099511627776) : Ev (fun k => laws_markText.f k (n : Int)) (B (markB n)) := by
  unfold laws_markText.f
  simp only [if_neg (show ¬ (n : Int) ≤ 0 by omega)]
  have := markP_l0 n [] hn (by simp; omega)
  have e : dz n ++ [] = Lib.decDigits n := by unfold dz; rw [if_neg (by omega), List.append_nil]
  rw [e] at this
  exact this

theorem rd_bm (p : List Bs) (i : Nat) (h : i < p.length) : rdOf ByteArray.empty (p.map B) ((i : Nat) : Int) = B p[i] := by
  unfold rdOf
  rw [Int.toNat_natCast, List.getD_eq_getElem?_getD]
  simp [List.getElem?_map, List.getElem?_eq_getElem h]
theorem held_S (n a : Nat) (ha : 0 < a) (hn : a + n ≤ 1099511627776) : Ev (fun k => laws_heldStringS.f k ((marks n a).map B) (a : Int)) ((a + n : Nat) : Int) := by
  unfold laws_heldStringS.f
  have go : ∀ (d i : Nat), i + d = n → Ev (fun k => laws_heldStringS.l0 k ((marks n a).map B) ((a + i : Nat) : Int) i) ((a + n : Nat) : Int) := by
    intro d
    induction d with
    | zero =>
      intro i hi
      obtain rfl : i = n := by omega
      refine ev_1 fun k => ?_
      simp only [laws_heldStringS.l0, List.length_map, marks_len]
      rw [if_neg (by omega)]
    | succ d ih =>
      intro i hi
      have hlt : i < (marks n a).length := by rw [marks_len]; omega
      have w1 : wrap64 (((a + i : Nat) : Int) + 1) = ((a + (i + 1) : Nat) : Int) := by rw [w64 (by omega) (by omega)]; omega
      have w2 : wrap64 ((i : Int) + 1) = ((i + 1 : Nat) : Int) := by rw [w64 (by omega) (by omega)]; rfl
      refine Ev.step (fun k => by rw [laws_heldStringS.l0]) ?_
      simp only [List.length_map, marks_len, if_pos (show (i : Int) < (n : Int) by omega), if_pos (show (0 : Int) ≤ (i : Int) by omega), rd_bm _ i hlt, marks_get n a i (by omega)]
      refine ev_bind (markP_ev (a + i) (by omega) (by omega)) ?_
      simp only [if_true, w1, w2]
      exact ih (i + 1) (by omega)
  have := go n 0 (by omega)
  simpa using this
theorem mark_S (p : List ByteArray) (a : Nat) (ha : 0 < a) (hn : a + p.length ≤ 1099511627776) : laws_markStringS.f p (a : Int) = some (((a + p.length : Nat) : Int), (marks p.length a).map B) := by
  unfold laws_markStringS.f
  rw [if_pos (by omega)]; rfl

theorem path_len (l : Bs) : (pathB pS l).length ≤ 1000 := by
  unfold pathB
  split
  · rename_i h
    have : ∀ (ps out : List Bs), (walkL pS out ps).length ≤ out.length + ps.length := by
      intro ps
      induction ps with
      | nil => intro out; simp [walkL]
      | cons s t ih => intro out; rw [walkL]; have h1 := ih (walkS pS out s t.isEmpty); have h2 := walkS_len pS out s t.isEmpty; simp; omega
    have h1 := this (pieces (offSlash l)) []
    have h2 := pieces_len (offSlash l)
    have h3 := offSlash_len l
    have h4 : ([] : List Bs).length = 0 := rfl
    omega
  · simp
theorem FnExactPathGet : laws_FnExactPathGet.Pure := by
  intro a0 h0
  obtain ⟨l, rfl, hl⟩ := exBn a0 _ h0
  refine Ev.rounds ?_
  unfold laws_FnExactPathGet.f
  by_cases hb : ((B l).size : Int) > 1048576
  · simp only [if_pos hb]; exact Ev.now _
  simp only [if_neg hb]
  refine ev_bind (spec_Path l) ?_
  have hp := path_len l
  simp only [impl_Path l, Option.bind_some]
  generalize pathB pS l = p at hp ⊢
  have e1 := eq_strs (p.map B) (by rw [List.length_map]; omega)
  have m1 := mark_S (p.map B) 1 (by omega) (by rw [List.length_map]; omega)
  rw [List.length_map] at m1
  have h1 := held_S p.length 1 (by omega) (by omega)
  have c1 : ((1 : Nat) : Int) = 1 := rfl
  rw [c1] at m1 h1
  refine ev_bind e1 ?_
  simp only [if_true, m1, Option.bind_some]
  refine ev_bind h1 ?_
  simp only [if_neg (show ¬ ((1 + p.length : Nat) : Int) < 0 by omega), if_true]
  refine ev_bind e1 ?_
  simp only [if_true]
  refine ev_bind h1 ?_
  simp only [if_neg (show ¬ ((1 + p.length : Nat) : Int) < 0 by omega), if_true]
  exact Ev.now _

end Go.Proofs.YtekeimhhffnjpaaDoor.Pure
