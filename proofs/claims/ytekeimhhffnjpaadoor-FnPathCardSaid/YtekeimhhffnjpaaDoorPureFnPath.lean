/- The pure side of the law FnPath: what the printed functions tell is what the law says, for every input within the law's bounds. -/
import Derived.Test.YtekeimhhffnjpaaDoorPFnPathx4
import Derived.Test.YtekeimhhffnjpaaDoorBase
import Derived.Test.YtekeimhhffnjpaaDoorHM
import Derived.Test.YtekeimhhffnjpaaDoorHWay
import Derived.Test.YtekeimhhffnjpaaDoorHImp
set_option linter.unusedVariables false
set_option linter.unusedSimpArgs false
namespace Go.Proofs.YtekeimhhffnjpaaDoor.Pure
open Go.RowKit Go.Proofs.YtekeimhhffnjpaaDoor.H Go.Proofs.YtekeimhhffnjpaaDoor.PFnPath Go.Proofs.YtekeimhhffnjpaaDoorW.PrintWords Go.Proofs.YtekeimhhffnjpaaDoorW.PrintLast Go.Proofs.YtekeimhhffnjpaaDoor.Base

theorem spec_Has (any : Bs) (c : UInt8) (h : any.length ≤ 1000000) : Ev (fun k => spec_l1Has.f k (B any) ((c.toNat : Nat) : Int)) (any.contains c) := by
  unfold spec_l1Has.f
  have go : ∀ (d i : Nat), i + d = any.length → Ev (fun k => spec_l1Has.l0 k (B any) ((c.toNat : Nat) : Int) i) ((any.drop i).contains c) := by
    intro d
    induction d with
    | zero =>
      intro i hi
      refine ev_1 fun k => ?_
      simp only [spec_l1Has.l0]
      rw [if_neg (by rw [B_size]; omega), List.drop_eq_nil_of_le (by omega)]; rfl
    | succ d ih =>
      intro i hi
      have hlt : i < any.length := by omega
      refine Ev.step (fun k => by rw [spec_l1Has.l0]) ?_
      have hi0 : (0 : Int) ≤ (i : Int) := by omega
      have hi1 : (i : Int) < (any.length : Int) := by omega
      have hw : wrap64 ((i : Int) + 1) = ((i + 1 : Nat) : Int) := by rw [w64 (by omega) (by omega)]; rfl
      simp only [B_size, bt_B, Int.toNat_natCast, get_eq hlt, if_pos hi0, if_pos hi1, hw]
      rw [List.drop_eq_getElem_cons hlt, List.contains_cons]
      by_cases e : any[i] = c
      · subst e
        simp only [if_true, beq_self_eq_true, Bool.true_or]; exact Ev.now _
      · have e1 : ¬ ((any[i].toNat : Nat) : Int) = ((c.toNat : Nat) : Int) := fun h => e (UInt8.toNat_inj.1 (by omega))
        have e2 : (c == any[i]) = false := by rw [beq_eq_false_iff_ne]; exact fun h => e h.symm
        simp only [if_neg e1, e2, Bool.false_or]; exact ih (i + 1) (by omega)
  have := go any.length 0 (by omega)
  simpa using this
theorem fig_at (n : Nat) (h : n < 16) : bt (⟨#[48, 49, 50, 51, 52, 53, 54, 55, 56, 57, 65, 66, 67, 68, 69, 70]⟩ : ByteArray) ((n : Nat) : Int) = ((fig n).toNat : Int) := by
  have : (⟨#[48, 49, 50, 51, 52, 53, 54, 55, 56, 57, 65, 66, 67, 68, 69, 70]⟩ : ByteArray) = B figs := rfl
  rw [this, bt_B, Int.toNat_natCast]; rfl
theorem spec_Figure (n : Nat) (h : n < 16) : spec_l1Figure.f ((n : Nat) : Int) = some (((fig n).toNat : Nat) : Int) := by
  unfold spec_l1Figure.f
  rw [if_pos (by omega), if_pos (by omega), fig_at n h]
theorem spec_Set (n : Int) : spec_l1Set.f n = some (B (setB n)) := by
  unfold spec_l1Set.f setB
  by_cases h1 : n = 1
  · rw [if_pos h1, if_pos h1]; rfl
  by_cases h2 : n = 2
  · rw [if_neg h1, if_neg h1, if_pos h2, if_pos h2]; rfl
  by_cases h3 : n = 3
  · rw [if_neg h1, if_neg h1, if_neg h2, if_neg h2, if_pos h3, if_pos h3]; rfl
  by_cases h5 : n = 5
  · rw [if_neg h1, if_neg h1, if_neg h2, if_neg h2, if_neg h3, if_neg h3, if_pos h5, if_pos h5]; rfl
  by_cases h4 : n = 4
  · rw [if_neg h1, if_neg h1, if_neg h2, if_neg h2, if_neg h3, if_neg h3, if_neg h5, if_neg h5, if_pos h4, if_pos h4]; rfl
  rw [if_neg h1, if_neg h1, if_neg h2, if_neg h2, if_neg h3, if_neg h3, if_neg h5, if_neg h5, if_neg h4, if_neg h4]; rfl
theorem setB_len (n : Int) : (setB n).length ≤ 1000000 := by
  unfold setB; repeat (first | (split) | (simp))
theorem tq1 (c : UInt8) : Int.tdiv (wrap64 ((c.toNat : Nat) : Int)) 16 = ((c.toNat / 16 : Nat) : Int) := by
  have := lt256 c
  rw [w64 (by omega) (by omega), Int.tdiv_eq_ediv_of_nonneg (by omega)]; rfl
theorem tq2 (c : UInt8) : Int.tmod (wrap64 ((c.toNat : Nat) : Int)) 16 = ((c.toNat % 16 : Nat) : Int) := by
  have := lt256 c
  rw [w64 (by omega) (by omega), Int.tmod_eq_emod_of_nonneg (by omega)]; rfl
theorem tq3 (c : UInt8) : wrap64 ((c.toNat / 16 : Nat) : Int) = ((c.toNat / 16 : Nat) : Int) := by
  have := lt256 c
  exact w64 (by omega) (by omega)
theorem tq4 (c : UInt8) : c.toNat / 16 < 16 := by have := lt256 c; omega
set_option maxHeartbeats 1000000 in
theorem spec_Encode_l0 (any l : Bs) (ha : any.length ≤ 1000000) (hl : l.length ≤ 200) (d : Nat) : ∀ i : Nat, i + d = l.length → Ev (fun k => spec_Encode.l0 k (B l) (ns (enc any (l.take i))) (B any) i) (B (enc any l)) := by
  induction d with
  | zero =>
    intro i hi
    refine Ev.step (fun k => by rw [spec_Encode.l0]) ?_
    simp only [B_size, if_neg (show ¬ (i : Int) < (l.length : Int) by omega)]
    refine ev_1 fun k => ?_
    simp only [spec_Encode.j1, Bool.false_eq_true, if_false, str_ns]
    rw [List.take_of_length_le (by omega)]
  | succ d ih =>
    intro i hi
    have hlt : i < l.length := by omega
    have e := ih (i + 1) (by omega)
    rw [enc_take any l i hlt, ns_append] at e
    have hi0 : (0 : Int) ≤ (i : Int) := by omega
    have hi1 : (i : Int) < (l.length : Int) := by omega
    have hw : wrap64 ((i : Int) + 1) = ((i + 1 : Nat) : Int) := by rw [w64 (by omega) (by omega)]; rfl
    have hel : (enc any (l.take i)).length ≤ 600 := by
      have h1 := (enc_len any (l.take i)).2
      have h2 : (l.take i).length = i := by simp; omega
      omega
    have h255 := lt256 l[i]
    refine Ev.step (fun k => by rw [spec_Encode.l0]) ?_
    simp only [B_size, if_pos hi1, show decide ((l.length : Int) ≤ 200) = true from decide_eq_true (by omega)]
    refine Ev.step (fun k => by rw [spec_Encode.j1]) ?_
    simp only [if_true, B_size, bt_B, Int.toNat_natCast, get_eq hlt, if_pos hi0, if_pos hi1]
    have fin : ∀ b : Bool, needs any l[i] = b → Ev (fun k => spec_Encode.j2 k (B l) (ns (enc any (l.take i))) (B any) i ((l[i].toNat : Nat) : Int) b) (B (enc any l)) := by
      intro b hb
      refine Ev.step (fun k => by rw [spec_Encode.j2]) ?_
      cases b with
      | true =>
        have q1 := tq1 l[i]
        have q2 := tq2 l[i]
        have q3 := tq3 l[i]
        have q4 : l[i].toNat / 16 < 16 := tq4 l[i]
        have q5 : l[i].toNat % 16 < 16 := Nat.mod_lt _ (by decide)
        have hn : encC any l[i] = pct l[i] := by unfold encC; rw [if_pos hb]
        rw [hn] at e
        simp only [if_true, q1, q2, q3, spec_Figure _ q4, spec_Figure _ q5, Option.bind_some, hw]
        simp only [if_pos (show (ns (enc any (l.take i))).length + ([37, ((fig (l[i].toNat / 16)).toNat : Int), ((fig (l[i].toNat % 16)).toNat : Int)] : List Int).length < 140737488355328 by simp; omega)]
        exact e
      | false =>
        have hn : encC any l[i] = [l[i]] := by unfold encC; rw [if_neg (by simp [hb])]
        rw [hn, ns_one] at e
        simp only [Bool.false_eq_true, if_false, if_pos (show (ns (enc any (l.take i))).length < 140737488355328 by simp; omega), hw]
        exact e
    by_cases c1 : ((l[i].toNat : Nat) : Int) < 32
    · simp only [if_pos c1]; exact fin true (by unfold needs; simp; omega)
    · simp only [if_neg c1]
      by_cases c2 : ((l[i].toNat : Nat) : Int) > 126
      · simp only [if_pos c2]; exact fin true (by unfold needs; simp; omega)
      · simp only [if_neg c2]
        refine ev_bind (spec_Has any l[i] ha) ?_
        exact fin _ (by unfold needs; rw [decide_eq_false (show ¬ l[i].toNat < 32 by omega), decide_eq_false (show ¬ 126 < l[i].toNat by omega)]; simp)
theorem spec_Encode_ev (n : Int) (l : Bs) (hl : l.length ≤ 140737488355327) : Ev (fun k => spec_Encode.f k n (B l)) (B (encMax n l)) := by
  unfold spec_Encode.f encMax
  simp only [spec_Set, Option.bind_some]
  by_cases h : l.length ≤ 200
  · rw [if_pos h]
    exact spec_Encode_l0 (setB n) l (setB_len n) h l.length 0 (by omega)
  · rw [if_neg h]
    refine Ev.step (fun k => by rw [spec_Encode.l0]) ?_
    simp only [B_size, if_pos (show (0 : Int) < (l.length : Int) by omega), show decide ((l.length : Int) ≤ 200) = false from decide_eq_false (by omega)]
    refine ev_1 fun k => ?_
    simp only [spec_Encode.j1, Bool.false_eq_true, if_false]
    exact congrArg some (str_ns [])

theorem set_same (n : Int) (c : UInt8) : (setI n).contains c = (setB n).contains c := by
  unfold setI setB
  by_cases h1 : n = 1
  · subst h1
    show List.contains [32, 34, 35, 60, 62, 63, 123, 125, 96] c = List.contains [32, 34, 35, 60, 62, 63, 96, 123, 125] c
    simp only [List.contains_cons, List.contains_nil]
    ac_rfl
  by_cases h2 : n = 2
  · subst h2; rfl
  by_cases h3 : n = 3
  · subst h3; rfl
  by_cases h4 : n = 4
  · subst h4
    show List.contains [32, 34, 35, 60, 62, 63, 123, 125, 96, 47, 58, 59, 61, 64, 91, 92, 93, 94, 124] c = List.contains [32, 34, 35, 60, 62, 63, 96, 123, 125, 47, 58, 59, 61, 64, 91, 92, 93, 94, 124] c
    simp only [List.contains_cons, List.contains_nil]
    ac_rfl
  by_cases h5 : n = 5
  · subst h5; rfl
  rw [if_neg (by omega), if_neg h1, if_neg h2, if_neg h3, if_neg h5, if_neg h4]
theorem enc_same (n : Int) (l : Bs) : enc (setI n) l = enc (setB n) l := by
  have : encC (setI n) = encC (setB n) := by funext c; unfold encC needs; rw [set_same]
  unfold enc; rw [this]

theorem enc_out (any l : Bs) : ∀ c ∈ enc any l, 32 ≤ c.toNat ∧ c.toNat ≤ 126 := by
  have hf : ∀ n, n < 16 → 32 ≤ (fig n).toNat ∧ (fig n).toNat ≤ 126 := by decide
  intro c hc
  obtain ⟨x, _, hx⟩ := List.mem_flatMap.1 hc
  unfold encC at hx
  split at hx
  · have h1 := tq4 x
    have h2 : x.toNat % 16 < 16 := Nat.mod_lt _ (by decide)
    unfold pct at hx
    simp only [List.mem_cons, List.not_mem_nil, or_false] at hx
    rcases hx with rfl | rfl | rfl
    · decide
    · exact hf _ h1
    · exact hf _ h2
  · rename_i h
    rw [List.mem_singleton.1 hx]
    have h' : needs any x = false := by simpa using h
    unfold needs at h'
    simp only [Bool.or_eq_false_iff, decide_eq_false_iff_not] at h'
    omega
/-- Signs that no set has: the percent sign and the figures. -/
def plainS : Bs := [37, 48, 49, 50, 51, 52, 53, 54, 55, 56, 57, 65, 66, 67, 68, 69, 70, 97, 98, 99, 100, 101, 102]
theorem set_plain (n : Int) (c : UInt8) (h : c ∈ plainS) : needs (setB n) c = false := by
  have hs : ∀ any ∈ ([[32, 34, 35, 60, 62, 63, 96, 123, 125], [32, 34, 35, 60, 62, 39], [32, 34, 60, 62, 96], [32], [32, 34, 35, 60, 62, 63, 96, 123, 125, 47, 58, 59, 61, 64, 91, 92, 93, 94, 124], []] : List Bs), ∀ c ∈ plainS, needs any c = false := by decide
  refine hs (setB n) ?_ c h
  unfold setB
  repeat (first | (split; · simp) | simp)
theorem fig_plain (m : Nat) (h : m < 16) : fig m ∈ plainS := by
  have : ∀ m, m < 16 → fig m ∈ plainS := by decide
  exact this m h
theorem enc_plain (any l : Bs) (h : ∀ c ∈ l, needs any c = false) : enc any l = l := by
  induction l with
  | nil => rfl
  | cons c t ih =>
    have : encC any c = [c] := by unfold encC; rw [if_neg (by rw [h c (by simp)]; simp)]
    show encC any c ++ enc any t = c :: t
    rw [this, ih (fun x hx => h x (by simp [hx]))]; rfl
theorem enc_twice (n : Int) (l : Bs) : enc (setB n) (enc (setB n) l) = enc (setB n) l := by
  refine enc_plain _ _ ?_
  intro c hc
  obtain ⟨x, _, hx⟩ := List.mem_flatMap.1 hc
  unfold encC at hx
  split at hx
  · have h1 := tq4 x
    have h2 : x.toNat % 16 < 16 := Nat.mod_lt _ (by decide)
    unfold pct at hx
    simp only [List.mem_cons, List.not_mem_nil, or_false] at hx
    rcases hx with rfl | rfl | rfl
    · exact set_plain n _ (by decide)
    · exact set_plain n _ (fig_plain _ h1)
    · exact set_plain n _ (fig_plain _ h2)
  · rename_i h
    rw [List.mem_singleton.1 hx]; simpa using h

theorem impl_Lower_some (l : Bs) (h : l.length ≤ 140737488355328) : impl_Lower.f (B l) = some (B (lower l)) := by
  unfold impl_Lower.f; rw [if_pos (by simpa using h), B_data]
theorem lower_length (l : Bs) : (lower l).length = l.length := by simp [lower]
theorem spec_Lower_l0 (l : Bs) (hl : l.length ≤ 140737488355327) (d : Nat) : ∀ i : Nat, i + d = l.length → Ev (fun k => spec_Lower.l0 k (B l) (ns ((l.take i).map lowB)) i) (B (lower l)) := by
  induction d with
  | zero =>
    intro i hi
    refine ev_1 fun k => ?_
    simp only [spec_Lower.l0]
    rw [if_neg (by rw [B_size]; omega), str_ns, List.take_of_length_le (by omega)]; rfl
  | succ d ih =>
    intro i hi
    have hlt : i < l.length := by omega
    have e := ih (i + 1) (by omega)
    rw [List.take_succ_eq_append_getElem hlt, List.map_append, List.map_singleton, ns_append, ns_one] at e
    refine Ev.step (fun k => by rw [spec_Lower.l0]) ?_
    have hi0 : (0 : Int) ≤ (i : Int) := by omega
    have hi1 : (i : Int) < (l.length : Int) := by omega
    have hln : (ns ((l.take i).map lowB)).length < 140737488355328 := by simp; omega
    have hw : wrap64 ((i : Int) + 1) = ((i + 1 : Nat) : Int) := by rw [w64 (by omega) (by omega)]; rfl
    simp only [B_size, bt_B, Int.toNat_natCast, get_eq hlt, if_pos hi0, if_pos hi1, if_pos hln, hw]
    have h1 := lt256 l[i]
    by_cases c1 : ((l[i].toNat : Nat) : Int) ≥ 65
    · by_cases c2 : ((l[i].toNat : Nat) : Int) ≤ 90
      · have : ((lowB l[i]).toNat : Int) = (((l[i].toNat : Nat) : Int) + 32) % 256 := by
          unfold lowB; rw [if_pos (by omega)]; simp
        simp only [if_pos c1, if_pos c2, ← this]; exact e
      · have : lowB l[i] = l[i] := by unfold lowB; rw [if_neg (by omega)]
        rw [this] at e
        simp only [if_pos c1, if_neg c2]; exact e
    · have : lowB l[i] = l[i] := by unfold lowB; rw [if_neg (by omega)]
      rw [this] at e
      simp only [if_neg c1]; exact e
theorem spec_Lower_ev (l : Bs) (hl : l.length ≤ 140737488355327) : Ev (fun k => spec_Lower.f k (B l)) (B (lower l)) := by
  unfold spec_Lower.f
  have := spec_Lower_l0 l hl l.length 0 (by omega)
  simpa [ns] using this

/-- A text with each %2e as a point. -/
def rp (x : Bs) : Bs := replA [37, 50, 101] [46] x
theorem rp_hit (t : Bs) : rp (37 :: 50 :: 101 :: t) = 46 :: rp t := by
  unfold rp; rw [replA_hit (by simp [List.isPrefixOf])]; rfl
theorem rp_miss (c : UInt8) (t : Bs) (h : ¬ ∃ r, c :: t = 37 :: 50 :: 101 :: r) : rp (c :: t) = c :: rp t := by
  unfold rp
  refine replA_miss ?_
  cases hp : List.isPrefixOf [37, 50, 101] (c :: t) with
  | false => rfl
  | true =>
    obtain ⟨r, hr⟩ := List.isPrefixOf_iff_prefix.1 hp
    exact absurd ⟨r, hr.symm⟩ h
theorem rp_nil : rp [] = [] := replA_nil _ _
theorem rp_empty (x : Bs) : rp x = [] ↔ x = [] := by
  constructor
  · intro h
    cases x with
    | nil => rfl
    | cons c t =>
      by_cases e : ∃ r, c :: t = 37 :: 50 :: 101 :: r
      · obtain ⟨r, hr⟩ := e; rw [hr, rp_hit] at h; cases h
      · rw [rp_miss c t e] at h; cases h
  · rintro rfl; exact rp_nil
theorem rp_inv (x r : Bs) : rp x = 46 :: r ↔ (∃ t, x = 46 :: t ∧ rp t = r) ∨ (∃ t, x = 37 :: 50 :: 101 :: t ∧ rp t = r) := by
  constructor
  · intro h
    cases x with
    | nil => rw [rp_nil] at h; cases h
    | cons c t =>
      by_cases e : ∃ r, c :: t = 37 :: 50 :: 101 :: r
      · obtain ⟨q, hq⟩ := e
        rw [hq, rp_hit] at h
        exact Or.inr ⟨q, hq, (List.cons.inj h).2⟩
      · rw [rp_miss c t e] at h
        exact Or.inl ⟨t, by rw [(List.cons.inj h).1], (List.cons.inj h).2⟩
  · rintro (⟨t, rfl, rfl⟩ | ⟨t, rfl, rfl⟩)
    · exact rp_miss 46 t (by rintro ⟨q, hq⟩; cases hq)
    · exact rp_hit t
theorem rp_one (x : Bs) : rp x = [46] ↔ x = [46] ∨ x = [37, 50, 101] := by
  rw [rp_inv]
  constructor
  · rintro (⟨t, rfl, ht⟩ | ⟨t, rfl, ht⟩) <;> rw [rp_empty] at ht <;> subst ht <;> simp
  · rintro (rfl | rfl)
    · exact Or.inl ⟨[], rfl, rp_nil⟩
    · exact Or.inr ⟨[], rfl, rp_nil⟩
theorem rp_two (x : Bs) : rp x = [46, 46] ↔ x = [46, 46] ∨ x = [46, 37, 50, 101] ∨ x = [37, 50, 101, 46] ∨ x = [37, 50, 101, 37, 50, 101] := by
  rw [rp_inv]
  constructor
  · rintro (⟨t, rfl, ht⟩ | ⟨t, rfl, ht⟩) <;> rw [rp_one] at ht <;> rcases ht with rfl | rfl <;> simp
  · rintro (rfl | rfl | rfl | rfl)
    · exact Or.inl ⟨_, rfl, (rp_one _).2 (Or.inl rfl)⟩
    · exact Or.inl ⟨_, rfl, (rp_one _).2 (Or.inr rfl)⟩
    · exact Or.inr ⟨_, rfl, (rp_one _).2 (Or.inl rfl)⟩
    · exact Or.inr ⟨_, rfl, (rp_one _).2 (Or.inr rfl)⟩
theorem dots_rp (s : Bs) : dotsN s = if rp (lower s) = [46] then 1 else if rp (lower s) = [46, 46] then 2 else 0 := rfl
theorem dots_cases (s : Bs) : dotsN s = 0 ∨ dotsN s = 1 ∨ dotsN s = 2 := by
  unfold dotsN; split
  · simp
  · split <;> simp
theorem dots_nil : dotsN [] = 0 := by decide +kernel
/-- The bytes that a path writes as escapes. -/
abbrev pS : Bs := setB 1
theorem lower_cons (c : UInt8) (t : Bs) : lower (c :: t) = lowB c :: lower t := rfl
theorem low_fig (n : Nat) (h : n < 16) (c : UInt8) : (lowB (fig n) = 50 → n = 2) ∧ (lowB (fig n) = 101 → n = 14) := by
  have : ∀ n, n < 16 → (lowB (fig n) = 50 → n = 2) ∧ (lowB (fig n) = 101 → n = 14) := by decide +kernel
  exact this n h
theorem low_50 (c : UInt8) (h : lowB c = 50) : c = 50 := by
  have : ∀ m : Nat, m < 256 → lowB (UInt8.ofNat m) = 50 → UInt8.ofNat m = 50 := by decide +kernel
  have e := this c.toNat c.toNat_lt
  rw [UInt8.ofNat_toNat] at e; exact e h
theorem low_101 (c : UInt8) (h : lowB c = 101) : c = 101 ∨ c = 69 := by
  have : ∀ m : Nat, m < 256 → lowB (UInt8.ofNat m) = 101 → UInt8.ofNat m = 101 ∨ UInt8.ofNat m = 69 := by decide +kernel
  have e := this c.toNat c.toNat_lt
  rw [UInt8.ofNat_toNat] at e; exact e h
theorem enc_yes (c : UInt8) (t : Bs) (h : needs pS c = true) : enc pS (c :: t) = 37 :: fig (c.toNat / 16) :: fig (c.toNat % 16) :: enc pS t := by
  show encC pS c ++ enc pS t = _
  unfold encC; rw [if_pos h]; rfl
theorem enc_no (c : UInt8) (t : Bs) (h : needs pS c = false) : enc pS (c :: t) = c :: enc pS t := by
  show encC pS c ++ enc pS t = _
  unfold encC; rw [if_neg (by rw [h]; simp)]; rfl
theorem pS46 : needs pS 46 = false := by decide
theorem pS37 : needs pS 37 = false := by decide
/-- An encoded text that reads as points all through was no other before. -/
theorem enc_points (n : Nat) : ∀ s : Bs, s.length ≤ n → 37 ∉ rp (lower (enc pS s)) → enc pS s = s := by
  induction n with
  | zero =>
    intro s hs _
    cases s with
    | nil => rfl
    | cons c t => simp at hs
  | succ n ih =>
    intro s hs h
    cases s with
    | nil => rfl
    | cons c t =>
      have ht : t.length ≤ n := by simpa using hs
      by_cases hn : needs pS c = true
      · exfalso
        rw [enc_yes c t hn] at h
        have l37 : lowB 37 = 37 := by decide
        rw [lower_cons, lower_cons, lower_cons, l37] at h
        by_cases e : ∃ r, (37 : UInt8) :: lowB (fig (c.toNat / 16)) :: lowB (fig (c.toNat % 16)) :: lower (enc pS t) = 37 :: 50 :: 101 :: r
        · obtain ⟨r, hr⟩ := e
          have h1 := (List.cons.inj (List.cons.inj hr).2).1
          have h2 := (List.cons.inj (List.cons.inj (List.cons.inj hr).2).2).1
          have hlt := c.toNat_lt
          have a1 := (low_fig _ (by omega) c).1 h1
          have a2 := (low_fig _ (Nat.mod_lt _ (by decide)) c).2 h2
          have hc : c = 46 := by
            have : c.toNat = 46 := by omega
            rw [← UInt8.ofNat_toNat (x := c), this]; rfl
          rw [hc, pS46] at hn; cases hn
        · rw [rp_miss _ _ e] at h; exact h (List.mem_cons_self)
      · have hn' : needs pS c = false := by simpa using hn
        rw [enc_no c t hn'] at h ⊢
        rw [lower_cons] at h
        by_cases e : ∃ r, lowB c :: lower (enc pS t) = 37 :: 50 :: 101 :: r
        · obtain ⟨r, hr⟩ := e
          rw [hr, rp_hit] at h
          have h1 := (List.cons.inj hr).2
          have hr' : 37 ∉ rp r := fun q => h (List.mem_cons_of_mem _ q)
          cases t with
          | nil => cases h1
          | cons a t1 =>
            by_cases na : needs pS a = true
            · rw [enc_yes a t1 na] at h1
              have : lowB 37 = (50 : UInt8) := (List.cons.inj h1).1
              exact absurd this (by decide)
            · have na' : needs pS a = false := by simpa using na
              rw [enc_no a t1 na'] at h1 ⊢
              rw [lower_cons] at h1
              have h2 := (List.cons.inj h1).2
              cases t1 with
              | nil => cases h2
              | cons b t2 =>
                by_cases nb : needs pS b = true
                · rw [enc_yes b t2 nb] at h2
                  have : lowB 37 = (101 : UInt8) := (List.cons.inj h2).1
                  exact absurd this (by decide)
                · have nb' : needs pS b = false := by simpa using nb
                  rw [enc_no b t2 nb'] at h2 ⊢
                  rw [lower_cons] at h2
                  have h3 : lower (enc pS t2) = r := (List.cons.inj h2).2
                  rw [ih t2 (by simp at ht; omega) (by rw [h3]; exact hr')]
        · rw [rp_miss _ _ e] at h
          rw [ih t ht (fun q => h (List.mem_cons_of_mem _ q))]
theorem dots_enc (s : Bs) (h : dotsN s = 0) : dotsN (enc pS s) = 0 := by
  have key : 37 ∉ rp (lower (enc pS s)) → dotsN (enc pS s) = 0 := fun q => by rw [enc_points s.length s (Nat.le_refl _) q]; exact h
  rcases dots_cases (enc pS s) with h0 | h0 | h0
  · exact h0
  all_goals
    refine key ?_
    rw [dots_rp] at h0
    split at h0
    · rename_i e; rw [e]; decide
    · split at h0
      · rename_i e; rw [e]; decide
      · cases h0

theorem spec_Dots (s : Bs) (hs : s.length ≤ 1000000) : Ev (fun k => spec_l3Dots.f k (B s)) (dotsN s) := by
  unfold spec_l3Dots.f
  refine ev_bind (spec_Lower_ev s (by omega)) ?_
  rw [dots_rp]
  by_cases h1 : lower s = [46]
  · simp only [B_toList, if_pos h1]
    refine ev_1 fun k => ?_
    have e1 : rp (lower s) = [46] := (rp_one _).2 (Or.inl h1)
    rw [if_pos e1]
    simp only [spec_l3Dots.j0, h1, beq_self_eq_true, if_true]
  simp only [B_toList, if_neg h1]
  by_cases h2 : lower s = [37, 50, 101]
  · refine ev_1 fun k => ?_
    have e1 : rp (lower s) = [46] := (rp_one _).2 (Or.inr h2)
    rw [if_pos e1]
    simp only [spec_l3Dots.j0, h2, beq_self_eq_true, if_true]
  have e1 : ¬ rp (lower s) = [46] := by rw [rp_one]; simp [h1, h2]
  rw [if_neg e1]
  refine ev_1 fun k => ?_
  simp only [spec_l3Dots.j0, B_toList, show (lower s == ([37, 50, 101] : Bs)) = false by simpa using h2, Bool.false_eq_true, if_false]
  by_cases h3 : lower s = [46, 46]
  · rw [if_pos h3, if_pos ((rp_two _).2 (by simp [h3]))]
  rw [if_neg h3]
  by_cases h4 : lower s = [46, 37, 50, 101]
  · rw [if_pos h4, if_pos ((rp_two _).2 (by simp [h4]))]
  rw [if_neg h4]
  by_cases h5 : lower s = [37, 50, 101, 46]
  · rw [if_pos h5, if_pos ((rp_two _).2 (by simp [h5]))]
  rw [if_neg h5]
  by_cases h6 : lower s = [37, 50, 101, 37, 50, 101]
  · rw [if_pos h6, if_pos ((rp_two _).2 (by simp [h6]))]
  rw [if_neg h6, if_neg (by rw [rp_two]; simp [h3, h4, h5, h6])]

theorem rd_map (ps : List Bs) (i : Nat) (h : i < ps.length) : rdOf ByteArray.empty (ps.map B) ((i : Nat) : Int) = B ps[i] := by
  unfold rdOf
  rw [Int.toNat_natCast, List.getD_eq_getElem?_getD]
  simp [List.getElem?_map, List.getElem?_eq_getElem h]
theorem spec_Walk_l0 (ps : List Bs) (hl : ps.length ≤ 1000000) (hp : ∀ s ∈ ps, s.length ≤ 200) (d : Nat) : ∀ (i : Nat) (out : List Bs), i + d = ps.length → out.length ≤ i → Ev (fun k => spec_l3Walk.l0 k (ps.map B) (out.map B) i) ((walkL pS out (ps.drop i)).map B) := by
  induction d with
  | zero =>
    intro i out hi ho
    refine ev_1 fun k => ?_
    simp only [spec_l3Walk.l0, List.length_map]
    rw [if_neg (by omega), List.drop_eq_nil_of_le (by omega)]; rfl
  | succ d ih =>
    intro i out hi ho
    have hlt : i < ps.length := by omega
    have hi0 : (0 : Int) ≤ (i : Int) := by omega
    have hi1 : (i : Int) < (ps.length : Int) := by omega
    have hw : wrap64 ((i : Int) + 1) = ((i + 1 : Nat) : Int) := by rw [w64 (by omega) (by omega)]; rfl
    have hs := hp ps[i] (List.getElem_mem hlt)
    have hlast : ((i : Int) == wrap64 ((ps.length : Int) - 1)) = decide (i + 1 = ps.length) := by
      rw [w64 (by omega) (by omega)]
      apply bool_eq; rw [beq_iff_eq, decide_eq_true_eq]; omega
    rw [walkL_at pS out ps i hlt]
    have j2 : ∀ (o : List Bs) (n : Int), o.length ≤ i → Ev (fun k => spec_l3Walk.j2 k (ps.map B) (o.map B) i (decide (i + 1 = ps.length)) n) ((walkL pS (if n = 0 then o ++ [enc pS ps[i]] else o ++ (if decide (i + 1 = ps.length) = true then [[]] else [])) (ps.drop (i + 1))).map B) := by
      intro o n ho
      have hln : (o.map B).length < 8796093022208 := by rw [List.length_map]; omega
      refine Ev.step (fun k => by rw [spec_l3Walk.j2]) ?_
      simp only [List.length_map, if_pos hi0, if_pos hi1, rd_map ps i hlt, hw]
      rw [List.length_map] at hln
      by_cases c : n = 0
      · simp only [if_pos c]
        refine ev_bind (spec_Encode_ev 1 ps[i] (by omega)) ?_
        have e : encMax 1 ps[i] = enc pS ps[i] := by unfold encMax; rw [if_pos hs]
        simp only [if_pos hln, e]
        have := ih (i + 1) (o ++ [enc pS ps[i]]) (by omega) (by simp; omega)
        rw [List.map_append] at this
        exact this
      · simp only [if_neg c]
        by_cases c2 : i + 1 = ps.length
        · simp only [c2, decide_true, if_true, if_pos hln]
          have := ih (i + 1) (o ++ [[]]) (by omega) (by simp; omega)
          rw [List.map_append, c2] at this
          exact this
        · simp only [decide_eq_false c2, Bool.false_eq_true, if_false, List.append_nil]
          exact ih (i + 1) o (by omega) (by omega)
    refine Ev.step (fun k => by rw [spec_l3Walk.l0]) ?_
    simp only [List.length_map, if_pos hi0, if_pos hi1, rd_map ps i hlt, hlast]
    refine ev_bind (spec_Dots ps[i] (by omega)) ?_
    have hS : walkS pS out ps[i] (decide (i + 1 = ps.length)) = if dotsN ps[i] = 0 then out ++ [enc pS ps[i]] else (if dotsN ps[i] = 2 ∧ 0 < out.length then out.dropLast else out) ++ (if decide (i + 1 = ps.length) = true then [[]] else []) := rfl
    rw [hS]
    generalize dotsN ps[i] = n
    by_cases c : n = 2
    · subst c
      rw [if_neg (show ¬ (2 : Int) = 0 by decide)]
      simp only [if_true, true_and]
      by_cases c2 : out.length = 0
      · simp only [decide_eq_false (show ¬ (out.length : Int) > 0 by omega)]
        refine Ev.step (fun k => by rw [spec_l3Walk.j1]) ?_
        simp only [Bool.false_eq_true, if_false]
        have := j2 out 2 ho
        rw [if_neg (by decide)] at this
        rw [if_neg (show ¬ (0 < out.length) by omega)]
        exact this
      · simp only [decide_eq_true (show (out.length : Int) > 0 by omega)]
        refine Ev.step (fun k => by rw [spec_l3Walk.j1]) ?_
        have hw1 : wrap64 ((out.length : Int) - 1) = ((out.length - 1 : Nat) : Int) := by rw [w64 (by omega) (by omega)]; omega
        simp only [if_true, List.length_map, hw1, Int.toNat_natCast, if_pos (show (0 : Int) ≤ ((out.length - 1 : Nat) : Int) by omega), if_pos (show ((out.length - 1 : Nat) : Int) ≤ (out.length : Int) by omega)]
        rw [← List.map_take, ← List.dropLast_eq_take]
        have := j2 out.dropLast 2 (by simp; omega)
        rw [if_neg (by decide)] at this
        rw [if_pos (show 0 < out.length by omega)]
        exact this
    · simp only [if_neg c]
      refine Ev.step (fun k => by rw [spec_l3Walk.j1]) ?_
      simp only [Bool.false_eq_true, if_false]
      have := j2 out n ho
      rw [if_neg (show ¬ (n = 2 ∧ 0 < out.length) from fun q => c q.1)]
      exact this
theorem spec_Walk (ps : List Bs) (hl : ps.length ≤ 1000000) (hp : ∀ s ∈ ps, s.length ≤ 200) : Ev (fun k => spec_l3Walk.f k [] (ps.map B)) ((walkL pS [] ps).map B) := by
  unfold spec_l3Walk.f
  simp only [Option.bind_some, List.length_nil, List.append_nil, if_pos (show 0 + 0 < 8796093022208 by decide)]
  have := spec_Walk_l0 ps hl hp ps.length 0 [] (by omega) (by simp)
  simpa using this

theorem splitC_mem (c : UInt8) : ∀ (l : Bs), ∀ s ∈ splitC c l, ∀ x ∈ s, x ∈ l ∧ x ≠ c
  | [], s, h => by simp [splitC] at h; subst h; simp
  | y :: t, s, h => by
    have ih := splitC_mem c t
    unfold splitC at h
    split at h
    · rename_i e
      rcases List.mem_cons.1 h with rfl | h
      · simp
      · intro x hx; exact ⟨List.mem_cons_of_mem _ (ih s h x hx).1, (ih s h x hx).2⟩
    · rename_i e
      split at h
      · rename_i h0; exact absurd h0 (splitC_ne c t)
      · rename_i a r h0
        rcases List.mem_cons.1 h with rfl | h
        · intro x hx
          rcases List.mem_cons.1 hx with rfl | hx
          · exact ⟨List.mem_cons_self, e⟩
          · have := ih a (by rw [h0]; simp) x hx
            exact ⟨List.mem_cons_of_mem _ this.1, this.2⟩
        · intro x hx
          have := ih s (by rw [h0]; simp [h]) x hx
          exact ⟨List.mem_cons_of_mem _ this.1, this.2⟩
def plainP (s : Bs) : Prop := 47 ∉ s ∧ 92 ∉ s
theorem pieces_plain (l : Bs) : ∀ s ∈ pieces l, plainP s := by
  intro s hs
  have h := splitC_mem 47 _ s hs
  refine ⟨fun q => (h 47 q).2 rfl, fun q => ?_⟩
  have := (h 92 q).1
  unfold swapC at this
  obtain ⟨x, _, hx⟩ := List.mem_map.1 this
  split at hx
  · cases hx
  · rename_i e; exact e hx
/-- A segment that reads as itself. -/
def Own (e : Bs) : Prop := dotsN e = 0 ∧ enc pS e = e ∧ plainP e
theorem enc_plainP (s : Bs) (h : plainP s) : plainP (enc pS s) := by
  have hf : ∀ n, n < 16 → fig n ≠ 47 ∧ fig n ≠ 92 := by decide
  have key : ∀ b : UInt8, b ∈ enc pS s → b ∈ s ∨ b = 37 ∨ ∃ n, n < 16 ∧ b = fig n := by
    intro b hb
    obtain ⟨x, hx, hb⟩ := List.mem_flatMap.1 hb
    unfold encC at hb
    split at hb
    · have hlt := x.toNat_lt
      unfold pct at hb
      simp only [List.mem_cons, List.not_mem_nil, or_false] at hb
      rcases hb with rfl | rfl | rfl
      · exact Or.inr (Or.inl rfl)
      · exact Or.inr (Or.inr ⟨_, by omega, rfl⟩)
      · exact Or.inr (Or.inr ⟨_, Nat.mod_lt _ (by decide), rfl⟩)
    · rw [List.mem_singleton.1 hb]; exact Or.inl hx
  constructor
  · intro q
    rcases key _ q with q | q | ⟨n, hn, q⟩
    · exact h.1 q
    · cases q
    · exact (hf n hn).1 q.symm
  · intro q
    rcases key _ q with q | q | ⟨n, hn, q⟩
    · exact h.2 q
    · cases q
    · exact (hf n hn).2 q.symm
theorem own_nil : Own [] := ⟨dots_nil, rfl, by simp [plainP]⟩
theorem own_enc (s : Bs) (h0 : dotsN s = 0) (h : plainP s) : Own (enc pS s) := ⟨dots_enc s h0, enc_twice 1 s, enc_plainP s h⟩
theorem walkS_own (out : List Bs) (s : Bs) (b : Bool) (ho : ∀ e ∈ out, Own e) (hs : plainP s) : ∀ e ∈ walkS pS out s b, Own e := by
  intro e he
  unfold walkS at he
  split at he
  · rename_i h0
    rcases List.mem_append.1 he with he | he
    · exact ho e he
    · rw [List.mem_singleton.1 he]; exact own_enc s h0 hs
  · rcases List.mem_append.1 he with he | he
    · split at he
      · exact ho e (List.dropLast_subset _ he)
      · exact ho e he
    · split at he
      · rw [List.mem_singleton.1 he]; exact own_nil
      · cases he
theorem walkL_own : ∀ (ps out : List Bs), (∀ e ∈ out, Own e) → (∀ s ∈ ps, plainP s) → ∀ e ∈ walkL pS out ps, Own e
  | [], _, ho, _ => ho
  | s :: t, out, ho, hp => by
    rw [walkL]
    exact walkL_own t _ (walkS_own out s _ ho (hp s (by simp))) (fun x hx => hp x (by simp [hx]))
theorem walkL_self : ∀ (p out : List Bs), (∀ e ∈ p, Own e) → walkL pS out p = out ++ p
  | [], out, _ => by rw [walkL, List.append_nil]
  | e :: t, out, h => by
    obtain ⟨h0, h1, _⟩ := h e (by simp)
    have : walkS pS out e t.isEmpty = out ++ [e] := by unfold walkS; rw [if_pos h0, h1]
    rw [walkL, this, walkL_self t _ (fun x hx => h x (by simp [hx])), List.append_assoc]; rfl
/-- Some pieces walked of which none is the last. -/
def walkA (any : Bs) (out : List Bs) (a : List Bs) : List Bs := a.foldl (fun o s => walkS any o s false) out
theorem walkL_app (any : Bs) : ∀ (a out b : List Bs), b ≠ [] → walkL any out (a ++ b) = walkL any (walkA any out a) b
  | [], _, _, _ => rfl
  | s :: t, out, b, hb => by
    have : (t ++ b).isEmpty = false := by cases t <;> simp [hb]
    rw [List.cons_append, walkL, this, walkL_app any t _ b hb]; rfl
theorem pieces_ne (l : Bs) : pieces l ≠ [] := splitC_ne _ _
theorem splitC_app (c : UInt8) : ∀ (a b : Bs), splitC c (a ++ c :: b) = splitC c a ++ splitC c b
  | [], b => by simp [splitC]
  | x :: t, b => by
    rw [List.cons_append, splitC, splitC, splitC_app c t b]
    by_cases e : x = c
    · rw [if_pos e, if_pos e]; rfl
    · rw [if_neg e, if_neg e]
      have := splitC_ne c t
      revert this
      cases splitC c t <;> simp
theorem swapC_app (c d : UInt8) (a b : Bs) : swapC c d (a ++ b) = swapC c d a ++ swapC c d b := by simp [swapC]
/-- The pieces ahead of a slash that is put behind a text. -/
def ahead (l : Bs) : List Bs := if l = [] then [] else pieces (offSlash l)
theorem pieces_behind (l r : Bs) : pieces (offSlash (l ++ 47 :: r)) = ahead l ++ pieces r := by
  unfold ahead
  cases l with
  | nil =>
    have : offSlash ([] ++ 47 :: r) = r := by unfold offSlash isSl; simp
    rw [this, if_pos rfl]; rfl
  | cons c t =>
    rw [if_neg (by simp)]
    have : offSlash (c :: t ++ 47 :: r) = offSlash (c :: t) ++ 47 :: r := by
      unfold offSlash; simp only [List.cons_append]; split <;> rfl
    rw [this]
    unfold pieces
    have e : swapC 92 47 (offSlash (c :: t) ++ 47 :: r) = swapC 92 47 (offSlash (c :: t)) ++ 47 :: swapC 92 47 r := by
      rw [swapC_app]; rfl
    rw [e, splitC_app]
theorem pieces_plainE (e : Bs) (h : plainP e) : pieces e = [e] := by
  unfold pieces
  have : swapC 92 47 e = e := by
    unfold swapC
    conv => rhs; rw [← List.map_id e]
    refine List.map_congr_left fun x hx => ?_
    show (if x = 92 then (47 : UInt8) else x) = x
    rw [if_neg (fun (q : x = 92) => h.2 (by rw [← q]; exact hx))]
  rw [this, splitC_plain 47 e (fun x hx q => h.1 (by rw [← q]; exact hx))]
theorem pathB_eq (l : Bs) (h : l.length ≤ 200) : pathB pS l = walkL pS [] (pieces (offSlash l)) := by unfold pathB; rw [if_pos h]
theorem path_behind (l r : Bs) (h : (l ++ 47 :: r).length ≤ 200) : pathB pS (l ++ 47 :: r) = walkL pS (walkA pS [] (ahead l)) (pieces r) := by
  rw [pathB_eq _ h, pieces_behind, walkL_app _ _ _ _ (pieces_ne r)]

theorem walkL_same : ∀ (ps out : List Bs), walkL (setI 1) out ps = walkL pS out ps
  | [], _ => rfl
  | s :: t, out => by
    have e : walkS (setI 1) out s t.isEmpty = walkS pS out s t.isEmpty := by unfold walkS; rw [enc_same]
    rw [walkL, walkL, e, walkL_same t]
theorem impl_Path (l : Bs) : impl_PathGet.f (B l) = some ((pathB pS l).map B) := by
  unfold impl_PathGet.f
  rw [B_data]
  unfold pathB
  rw [walkL_same]
theorem pieces_each (l : Bs) : ∀ s ∈ pieces l, s.length ≤ l.length := by
  intro s hs
  have := splitC_each 47 (swapC 92 47 l) s hs
  rw [swapC_length] at this; exact this
theorem pieces_len (l : Bs) : (pieces l).length ≤ l.length + 1 := by
  have h1 := splitC_length 47 (swapC 92 47 l)
  have h2 := List.count_le_length (a := (47 : UInt8)) (l := swapC 92 47 l)
  rw [swapC_length] at h2
  unfold pieces; omega
theorem spec_Path (l : Bs) : Ev (fun k => spec_PathGet.f k (B l)) ((pathB pS l).map B) := by
  unfold spec_PathGet.f
  by_cases hl : l.length ≤ 200
  · have hol := offSlash_len l
    have hw := spec_Walk (pieces (offSlash l)) (by have := pieces_len (offSlash l); omega) (fun s hs => by have := pieces_each (offSlash l) s hs; omega)
    have hp : spec_l3Pieces.f (B (offSlash l)) = some ((pieces (offSlash l)).map B) := by
      unfold spec_l3Pieces.f; rw [if_pos (by rw [B_size]; omega), B_data]
    have hr : pathB pS l = walkL pS [] (pieces (offSlash l)) := by unfold pathB; rw [if_pos hl]
    rw [hr]
    simp only [B_size, if_neg (show ¬ (l.length : Int) > 200 by omega)]
    cases l with
    | nil =>
      simp only [List.length_nil, if_neg (show ¬ ((0 : Nat) : Int) > 0 by omega)]
      refine Ev.step (fun k => by rw [spec_PathGet.j0]) ?_
      simp only [Bool.false_eq_true, if_false]
      have e0 : offSlash [] = [] := rfl
      rw [e0] at hp hw ⊢
      simp only [hp, Option.bind_some]
      refine ev_bind hw ?_
      exact Ev.now _
    | cons c t =>
      have hbt : bt (B (c :: t)) 0 = ((c.toNat : Nat) : Int) := by rw [bt_B]; rfl
      simp only [hbt, List.length_cons, if_pos (show ((t.length + 1 : Nat) : Int) > 0 by omega), if_pos (show (0 : Int) < ((t.length + 1 : Nat) : Int) by omega)]
      have fin : ∀ b : Bool, b = isSl c → Ev (fun k => spec_PathGet.j0 k (B (c :: t)) b) ((walkL pS [] (pieces (offSlash (c :: t)))).map B) := by
        intro b hb
        refine Ev.step (fun k => by rw [spec_PathGet.j0]) ?_
        cases b with
        | true =>
          have e0 : offSlash (c :: t) = t := by show (if isSl c = true then t else c :: t) = t; rw [← hb, if_pos rfl]
          rw [e0] at hp hw ⊢
          have e1 : (B (c :: t)).extract 1 (t.length + 1) = B t := by
            rw [B_extract, List.drop_one, List.tail_cons, List.take_of_length_le (by omega)]
          simp only [if_true, B_size, List.length_cons, if_pos (show (1 : Int) ≤ ((t.length + 1 : Nat) : Int) by omega), e1, hp, Option.bind_some]
          refine ev_bind hw ?_
          exact Ev.now _
        | false =>
          have e0 : offSlash (c :: t) = c :: t := by show (if isSl c = true then t else c :: t) = c :: t; rw [← hb, if_neg (by simp)]
          rw [e0] at hp hw ⊢
          simp only [Bool.false_eq_true, if_false, hp, Option.bind_some]
          refine ev_bind hw ?_
          exact Ev.now _
      by_cases c1 : c = 47
      · simp only [if_pos (show ((c.toNat : Nat) : Int) = 47 from (byte_eq _ 47 (by decide)).2 c1)]
        exact fin true (by rw [c1]; rfl)
      · simp only [if_neg (show ¬ ((c.toNat : Nat) : Int) = 47 from fun e => c1 ((byte_eq _ 47 (by decide)).1 e))]
        refine fin _ ?_
        have e1 : (c == 47) = false := by simpa using c1
        unfold isSl
        rw [e1, Bool.false_or]
        apply bool_eq; rw [beq_iff_eq, beq_iff_eq]
        exact byte_eq c 92 (by decide)
  · have hr : pathB pS l = [] := by unfold pathB; rw [if_neg hl]
    rw [hr]
    simp only [B_size, if_pos (show (l.length : Int) > 200 by omega)]
    exact Ev.now _

theorem texts_same (p : List Bs) (hp : p.length ≤ 1000000) : Ev (fun k => laws_guTexts.f k (p.map B) (p.map B)) true := by
  unfold laws_guTexts.f
  simp only [if_true]
  have go : ∀ (d i : Nat), i + d = p.length → Ev (fun k => laws_guTexts.l0 k (p.map B) (p.map B) i) true := by
    intro d
    induction d with
    | zero =>
      intro i hi
      refine ev_1 fun k => ?_
      simp only [laws_guTexts.l0, List.length_map]; rw [if_neg (by omega)]
    | succ d ih =>
      intro i hi
      have hi0 : (0 : Int) ≤ (i : Int) := by omega
      have hi1 : (i : Int) < (p.length : Int) := by omega
      have hw : wrap64 ((i : Int) + 1) = ((i + 1 : Nat) : Int) := by rw [w64 (by omega) (by omega)]; rfl
      refine Ev.step (fun k => by rw [laws_guTexts.l0]) ?_
      simp only [List.length_map, if_pos hi1, if_pos hi0, if_true, hw]
      exact ih (i + 1) (by omega)
  exact go p.length 0 (by omega)

/-- A reader over these bytes may be asked some more times. -/
def RdOk (s : List Int) (p : Int) (n : Nat) : Prop := (∀ x ∈ s, 0 ≤ x ∧ x ≤ 255) ∧ s.length ≤ 2000 ∧ 0 ≤ p ∧ p + n ≤ 1000000000
theorem xor_nn (a b : Int) (ha : 0 ≤ a) (ha' : a < 4611686018427387904) (hb : 0 ≤ b) (hb' : b < 4611686018427387904) : 0 ≤ Go.bits .xor .i64 a b ∧ Go.bits .xor .i64 a b < 4611686018427387904 := by
  obtain ⟨a, rfl⟩ := Int.eq_ofNat_of_zero_le ha
  obtain ⟨b, rfl⟩ := Int.eq_ofNat_of_zero_le hb
  have hx : a ^^^ b < 2 ^ 62 := Nat.xor_lt_two_pow (by omega) (by omega)
  have h1 : (BitVec.ofInt 64 (a : Int)).toNat = a := by
    rw [BitVec.ofInt_natCast, BitVec.toNat_ofNat]; exact Nat.mod_eq_of_lt (by omega)
  have h2 : (BitVec.ofInt 64 (b : Int)).toNat = b := by
    rw [BitVec.ofInt_natCast, BitVec.toNat_ofNat]; exact Nat.mod_eq_of_lt (by omega)
  have e : Go.bits .xor .i64 (a : Int) (b : Int) = ((a ^^^ b : Nat) : Int) := by
    show IntKind.i64.wrap ((BitVec.ofInt 64 (a : Int) ^^^ BitVec.ofInt 64 (b : Int)).toNat : Int) = _
    rw [BitVec.toNat_xor, h1, h2, i64_w]
    exact w64 (by omega) (by omega)
  rw [e]; omega
theorem tmod_rng (a n : Int) (ha : 0 ≤ a) (hn : 0 < n) : 0 ≤ Int.tmod a n ∧ Int.tmod a n < n := by
  rw [Int.tmod_eq_emod_of_nonneg ha]; exact ⟨Int.emod_nonneg _ (by omega), Int.emod_lt_of_pos _ hn⟩
theorem tdiv_rng (a n : Int) (ha : 0 ≤ a) (hn : 0 < n) : 0 ≤ Int.tdiv a n ∧ Int.tdiv a n ≤ a := by
  rw [Int.tdiv_eq_ediv_of_nonneg ha]; exact ⟨Int.ediv_nonneg ha (by omega), Int.ediv_le_self _ ha⟩
theorem rd_rng {s : List Int} (h : ∀ x ∈ s, 0 ≤ x ∧ x ≤ 255) (i : Int) : 0 ≤ rd s i ∧ rd s i ≤ 255 := by
  unfold rd
  by_cases hi : i.toNat < s.length
  · rw [List.getD_eq_getElem?_getD, List.getElem?_eq_getElem hi]; exact h _ (List.getElem_mem hi)
  · rw [List.getD_eq_getElem?_getD, List.getElem?_eq_none (by omega)]; simp
theorem pick_some (k : Nat) (s : List Int) (p n : Int) {m : Nat} (h : RdOk s p (m + 1)) (hn : 1 ≤ n) (hn' : n ≤ 1000000) : ∃ r, spec_l1Rd_pick.f (k + 1) s p n = some (r, p + 1) ∧ 0 ≤ r ∧ r < n := by
  obtain ⟨hs, hl, hp, hp'⟩ := h
  unfold spec_l1Rd_pick.f
  rw [if_neg (by omega), w64 (n := p + 1) (by omega) (by omega)]
  simp only [spec_l1Rd_pick.j0]
  by_cases hz : s.length = 0
  · rw [if_pos (by simp [hz])]; exact ⟨0, rfl, by omega, by omega⟩
  · rw [if_neg (by simp; exact fun e => hz (by simp [e])), w64 (n := p + 1 - 1) (by omega) (by omega)]
    have e1 : p + 1 - 1 = p := by omega
    rw [e1]
    have hlen : (0 : Int) < s.length := by omega
    by_cases hlt : p < s.length
    · rw [if_pos hlt, if_pos hp, if_neg (by omega)]
      have hr := rd_rng hs p
      rw [w64 (n := rd s p) (by omega) (by omega)]
      obtain ⟨h1, h2⟩ := tmod_rng (rd s p) n hr.1 (by omega)
      exact ⟨_, rfl, h1, h2⟩
    · rw [if_neg hlt, if_neg (by omega)]
      rw [w64 (n := p * 7) (by omega) (by omega), w64 (n := p * 7 + 3) (by omega) (by omega)]
      obtain ⟨a1, a2⟩ := tmod_rng p s.length hp hlen
      obtain ⟨b1, b2⟩ := tmod_rng (p * 7 + 3) s.length (by omega) hlen
      rw [if_pos a1, if_pos a2, if_pos b1, if_pos b2, if_neg (by omega)]
      have ra := rd_rng hs (Int.tmod p s.length)
      have rb := rd_rng hs (Int.tmod (p * 7 + 3) s.length)
      generalize rd s (Int.tmod p s.length) = x at ra ⊢
      generalize rd s (Int.tmod (p * 7 + 3) s.length) = y at rb ⊢
      obtain ⟨d1, d2⟩ := tdiv_rng p s.length hp hlen
      generalize Int.tdiv p s.length = q at d1 d2 ⊢
      rw [w64 (n := x) (by omega) (by omega), w64 (n := y) (by omega) (by omega), w64 (n := x * 131) (by omega) (by omega), w64 (n := y * 1117) (by omega) (by omega), w64 (n := q) (by omega) (by omega), w64 (n := q * 53) (by omega) (by omega), w64 (n := p * 29) (by omega) (by omega),
        w64 (n := x * 131 + y * 1117) (by omega) (by omega), w64 (n := x * 131 + y * 1117 + p * 29) (by omega) (by omega), w64 (n := x * 131 + y * 1117 + p * 29 + q * 53) (by omega) (by omega)]
      have hz0 : 0 ≤ x * 131 + y * 1117 + p * 29 + q * 53 := by omega
      have hz1 : x * 131 + y * 1117 + p * 29 + q * 53 < 4611686018427387904 := by omega
      generalize x * 131 + y * 1117 + p * 29 + q * 53 = z at hz0 hz1 ⊢
      obtain ⟨t1, t2⟩ := tdiv_rng z 64 hz0 (by omega)
      rw [w64 (n := Int.tdiv z 64) (by omega) (by omega)]
      obtain ⟨x1, x2⟩ := xor_nn z (Int.tdiv z 64) hz0 hz1 t1 (by omega)
      obtain ⟨h1, h2⟩ := tmod_rng _ n x1 (by omega)
      exact ⟨_, rfl, h1, h2⟩
theorem RdOk.step {s : List Int} {p : Int} {m : Nat} (h : RdOk s p (m + 1)) : RdOk s (p + 1) m := ⟨h.1, h.2.1, by have := h.2.2.1; omega, by have := h.2.2.2; omega⟩
theorem l1Open_ok (l0 : List Int) (h : ∀ x ∈ l0, (Lit.int .u8 x).wf = true) (m : Nat) (hm : m ≤ 1000000000) : ∃ s, spec_l1Open.f l0 = some (s, 0) ∧ RdOk s 0 m := by
  have h' : ∀ x ∈ l0, 0 ≤ x ∧ x ≤ 255 := by
    intro x hx
    have := h x hx
    simp [Lit.wf, IntKind.min, IntKind.max, IntKind.bits, IntKind.signed] at this
    omega
  unfold spec_l1Open.f
  by_cases hl : (l0.length : Int) > 2000
  · rw [if_pos hl, if_pos (by omega)]
    exact ⟨_, rfl, fun x hx => h' x (List.mem_of_mem_take hx), by simp; omega, by omega, by omega⟩
  · rw [if_neg hl]
    exact ⟨_, rfl, h', by omega, by omega, by omega⟩
theorem pick_ev (s : List Int) (p n : Int) {m : Nat} (h : RdOk s p (m + 1)) (hn : 1 ≤ n) (hn' : n ≤ 1000000) : ∃ r, Ev (fun k => spec_l1Rd_pick.f k s p n) (r, p + 1) ∧ 0 ≤ r ∧ r < n := by
  obtain ⟨r, hr, h0, h1⟩ := pick_some 0 s p n h hn hn'
  exact ⟨r, Ev.of (fun k => spec_l1Rd_pick.mono _ _ _ k) hr, h0, h1⟩
theorem RdOk.less {s : List Int} {p : Int} {m n : Nat} (h : RdOk s p n) (hm : m ≤ n) : RdOk s p m := ⟨h.1, h.2.1, h.2.2.1, by have := h.2.2.2; omega⟩
theorem RdOk.skip {s : List Int} {p : Int} {m n : Nat} (h : RdOk s p (n + m)) : RdOk s (p + n) m := ⟨h.1, h.2.1, by have := h.2.2.1; omega, by have := h.2.2.2; omega⟩

theorem of_some (k : Nat) (s : List Int) (p : Int) {m : Nat} (h : RdOk s p (m + 1)) (l : List ByteArray) (hl : l ≠ []) (hl' : l.length ≤ 1000000) : ∃ x ∈ l, spec_l1Rd_of.f (k + 1) s p l = some (x, p + 1) := by
  have hpos : 0 < l.length := List.length_pos_iff.2 hl
  obtain ⟨r, hr, h0, h1⟩ := pick_some k s p l.length h (by omega) (by omega)
  refine ⟨rdOf ByteArray.empty l r, ?_, ?_⟩
  · unfold rdOf
    rw [List.getD_eq_getElem?_getD, List.getElem?_eq_getElem (show r.toNat < l.length by omega)]
    exact List.getElem_mem _
  · unfold spec_l1Rd_of.f
    rw [hr]
    simp only [Option.bind_some]
    rw [if_pos h0, if_pos h1]
theorem of_ev (s : List Int) (p : Int) {m : Nat} (h : RdOk s p (m + 1)) (l : List ByteArray) (hl : l ≠ []) (hl' : l.length ≤ 1000000) : ∃ x ∈ l, Ev (fun k => spec_l1Rd_of.f k s p l) (x, p + 1) := by
  obtain ⟨x, hx, e⟩ := of_some 0 s p h l hl hl'
  exact ⟨x, hx, Ev.of (fun k => spec_l1Rd_of.mono _ _ _ k) e⟩

theorem draw_path_l0 (s : List Int) : ∀ (n : Nat) (b : Bs) (p : Int) (m : Nat), b.length + 5 * n ≤ 1000 → RdOk s p (2 * n + m) → ∃ b' : Bs, b'.length ≤ b.length + 5 * n ∧ Ev (fun k => spec_l11Path.l0 k (B b) n s p) (B b', p + 2 * n) := by
  intro n
  induction n with
  | zero =>
    intro b p m hb h
    refine ⟨b, by omega, ev_1 fun k => ?_⟩
    simp only [spec_l11Path.l0]
    rw [if_neg (by omega)]; simp
  | succ n ih =>
    intro b p m hb h
    have h' : RdOk s p (2 * n + m + 1 + 1) := h.less (by omega)
    obtain ⟨x, hx, ex⟩ := of_ev s p h' ([(⟨#[47]⟩ : ByteArray), (⟨#[47]⟩ : ByteArray), (⟨#[47]⟩ : ByteArray), (⟨#[92]⟩ : ByteArray), (⟨#[]⟩ : ByteArray)] : List ByteArray) (by simp) (by simp)
    obtain ⟨y, hy, ey⟩ := of_ev s _ h'.step ([(⟨#[97]⟩ : ByteArray), (⟨#[98]⟩ : ByteArray), (⟨#[46, 46]⟩ : ByteArray), (⟨#[46]⟩ : ByteArray), (⟨#[]⟩ : ByteArray), (⟨#[37, 50, 101]⟩ : ByteArray), (⟨#[46, 37, 50, 69]⟩ : ByteArray), (⟨#[99, 32, 100]⟩ : ByteArray), (⟨#[120, 63]⟩ : ByteArray), (⟨#[35]⟩ : ByteArray), (⟨#[97, 58, 98]⟩ : ByteArray), (⟨#[46, 46, 46]⟩ : ByteArray), (⟨#[195, 169]⟩ : ByteArray), (⟨#[64]⟩ : ByteArray)] : List ByteArray) (by simp) (by simp)
    have sx : x.size ≤ 1 := by
      simp only [List.mem_cons, List.not_mem_nil, or_false] at hx
      rcases hx with rfl | rfl | rfl | rfl | rfl <;> decide
    have sy : y.size ≤ 4 := by
      simp only [List.mem_cons, List.not_mem_nil, or_false] at hy
      rcases hy with rfl | rfl | rfl | rfl | rfl | rfl | rfl | rfl | rfl | rfl | rfl | rfl | rfl | rfl <;> decide
    obtain ⟨u, rfl, hu⟩ := exBn x _ sx
    obtain ⟨v, rfl, hv⟩ := exBn y _ sy
    obtain ⟨b', hl, e⟩ := ih (b ++ u ++ v) (p + 1 + 1) m (by simp; omega) h'.step.step
    refine ⟨b', by simp at hl; omega, ?_⟩
    refine Ev.step (fun k => by rw [spec_l11Path.l0]) ?_
    simp only [if_pos (show ((n + 1 : Nat) : Int) > 0 by omega)]
    refine ev_bind ex ?_
    simp only [B_size, B_append, if_pos (show b.length + u.length ≤ 9223372036854775807 by omega)]
    refine ev_bind ey ?_
    have hw : wrap64 (((n + 1 : Nat) : Int) - 1) = (n : Int) := by rw [w64 (by omega) (by omega)]; omega
    simp only [B_size, B_append, List.length_append, if_pos (show b.length + u.length + v.length ≤ 9223372036854775807 by omega), hw]
    have hp : p + 1 + 1 + 2 * (n : Int) = p + 2 * ((n + 1 : Nat) : Int) := by omega
    rw [hp] at e
    exact e
theorem draw_path (l0 : List Int) (hb : ∀ x ∈ l0, (Lit.int .u8 x).wf = true) : ∃ l : Bs, l.length ≤ 20 ∧ Ev (fun k => spec_DrawPathGet.f k l0) (B l) := by
  obtain ⟨s, hs, hok⟩ := l1Open_ok l0 hb 99 (by omega)
  unfold spec_DrawPathGet.f spec_l11Path.f
  simp only [hs, Option.bind_some]
  obtain ⟨a, ha, a0, a1⟩ := pick_ev s 0 5 hok (by omega) (by omega)
  obtain ⟨n, rfl⟩ := Int.eq_ofNat_of_zero_le a0
  obtain ⟨b, hl, e⟩ := draw_path_l0 s n [] _ 10 (by simp; omega) (hok.step.less (by omega))
  refine ⟨b, by simp at hl; omega, ?_⟩
  refine ev_bind (ev_bind ha e) ?_
  exact Ev.now _

theorem walkL_one (out : List Bs) (s : Bs) : walkL pS out [s] = walkS pS out s true := rfl
theorem pieces_1 (r : Bs) (h : plainP r) : pieces r = [r] := pieces_plainE r h
theorem dots_up : dotsN [46, 46] = 2 := by decide +kernel
theorem dots_self : dotsN [46] = 1 := by decide +kernel
theorem dots_x : dotsN [120] = 0 := by decide +kernel
theorem walk_back (out : List Bs) (c : UInt8) (hc : dotsN [c] = 0) : walkS pS (walkS pS out [c] false) [46, 46] false = out := by
  have e1 : walkS pS out [c] false = out ++ [enc pS [c]] := by unfold walkS; rw [if_pos hc]
  rw [e1]
  unfold walkS
  rw [dots_up, if_neg (by decide), if_pos ⟨rfl, by simp⟩, List.dropLast_concat]
  simp
theorem walk_backL (out : List Bs) (c : UInt8) (hc : dotsN [c] = 0) : walkS pS (walkS pS out [c] false) [46, 46] true = out ++ [[]] := by
  have e1 : walkS pS out [c] false = out ++ [enc pS [c]] := by unfold walkS; rw [if_pos hc]
  rw [e1]
  unfold walkS
  rw [dots_up, if_neg (by decide), if_pos ⟨rfl, by simp⟩, List.dropLast_concat]
  simp
theorem walk_nil (out : List Bs) : walkS pS out [] true = out ++ [[]] := by
  unfold walkS; rw [if_pos dots_nil]; rfl
theorem walk_self (out : List Bs) : walkS pS out [46] true = out ++ [[]] := by
  unfold walkS; rw [dots_self, if_neg (by decide), if_neg (fun q => absurd q.1 (by decide))]; simp
theorem p_xup : pieces [120, 47, 46, 46] = [[120], [46, 46]] := by decide
theorem p_xupy : pieces [120, 47, 46, 46, 47, 121] = [[120], [46, 46], [121]] := by decide
theorem p_y : pieces [121] = [[121]] := by decide
theorem p_dot : pieces [46] = [[46]] := by decide
theorem p_nil : pieces [] = [[]] := by decide
theorem path_len (l : Bs) : (pathB pS l).length ≤ 1000 := by
  unfold pathB
  split
  · rename_i h
    have : ∀ (ps out : List Bs), (walkL pS out ps).length ≤ out.length + ps.length := by
      intro ps
      induction ps with
      | nil => intro out; simp [walkL]
      | cons s t ih => intro out; rw [walkL]; have h1 := ih (walkS pS out s t.isEmpty); have h2 := walkS_len pS out s t.isEmpty; simp; omega
    have h1 := this (pieces (offSlash l)) []
    have h2 := pieces_len (offSlash l)
    have h3 := offSlash_len l
    have h4 : ([] : List Bs).length = 0 := rfl
    omega
  · simp

/-- What is written of segments is read again. -/
theorem pieces_put : ∀ (p : List Bs), p ≠ [] → (∀ e ∈ p, plainP e) → pieces (offSlash (pathPut p)) = p
  | [], h, _ => absurd rfl h
  | [e], _, h => by
    have : offSlash (pathPut [e]) = e := by unfold pathPut offSlash isSl; simp
    rw [this, pieces_plainE e (h e (by simp))]
  | e :: a :: t, _, h => by
    have ih := pieces_put (a :: t) (by simp) (fun x hx => h x (by simp [hx]))
    have e1 : offSlash (pathPut (e :: a :: t)) = e ++ 47 :: (offSlash (pathPut (a :: t))) := by
      unfold pathPut offSlash isSl; simp
    rw [e1]
    unfold pieces at ih ⊢
    have e2 : swapC 92 47 (e ++ 47 :: offSlash (pathPut (a :: t))) = swapC 92 47 e ++ 47 :: swapC 92 47 (offSlash (pathPut (a :: t))) := by rw [swapC_app]; rfl
    rw [e2, splitC_app, ih]
    have := pieces_plainE e (h e (by simp))
    unfold pieces at this
    rw [this]; rfl
/-- Room that some pieces may take when written. -/
def room (ps : List Bs) : Nat := (ps.map fun s => 1 + 3 * s.length).sum
theorem room_app (a b : List Bs) : room (a ++ b) = room a + room b := by simp [room]
theorem put_app (a b : List Bs) : pathPut (a ++ b) = pathPut a ++ pathPut b := by simp [pathPut]
theorem put_drop (a : List Bs) : (pathPut a.dropLast).length ≤ (pathPut a).length := by
  rw [List.dropLast_eq_take]; exact pathPut_mono a _
theorem walkS_room (out : List Bs) (s : Bs) (b : Bool) : (pathPut (walkS pS out s b)).length ≤ (pathPut out).length + (1 + 3 * s.length) := by
  have h1 := (enc_len pS s).2
  have one : ∀ e : Bs, (pathPut [e]).length = 1 + e.length := by intro e; simp [pathPut]; omega
  unfold walkS
  split
  · rw [put_app, List.length_append, one]; omega
  · rw [put_app, List.length_append]
    have h2 : (pathPut (if b = true then [[]] else [])).length ≤ 1 := by cases b <;> simp [pathPut]
    have h3 : (pathPut (if dotsN s = 2 ∧ 0 < out.length then out.dropLast else out)).length ≤ (pathPut out).length := by
      split
      · exact put_drop out
      · exact Nat.le_refl _
    omega
theorem walkL_room : ∀ (ps out : List Bs), (pathPut (walkL pS out ps)).length ≤ (pathPut out).length + room ps
  | [], out => Nat.le_add_right _ _
  | s :: t, out => by
    have h1 := walkS_room out s t.isEmpty
    have h2 := walkL_room t (walkS pS out s t.isEmpty)
    have e : room (s :: t) = (1 + 3 * s.length) + room t := by simp [room]
    rw [walkL, e]; omega
theorem room_split (c : UInt8) : ∀ l : Bs, room (splitC c l) ≤ 3 * l.length + 1
  | [] => by simp [splitC, room]
  | x :: t => by
    have ih := room_split c t
    unfold splitC
    split
    · have e : room ([] :: splitC c t) = 1 + room (splitC c t) := by simp [room]
      rw [e, List.length_cons]; omega
    · revert ih
      have := splitC_ne c t
      revert this
      cases splitC c t with
      | nil => simp
      | cons a r => intro _ ih; simp [room] at ih ⊢; omega
theorem room_pieces (l : Bs) : room (pieces l) ≤ 3 * l.length + 1 := by
  have := room_split 47 (swapC 92 47 l)
  rw [swapC_length] at this; exact this
theorem path_own (l : Bs) (h : l.length ≤ 200) : ∀ e ∈ pathB pS l, Own e := by
  rw [pathB_eq l h]; exact walkL_own _ _ (by simp) (pieces_plain _)
theorem path_ne (l : Bs) (h : l.length ≤ 200) : pathB pS l ≠ [] := by
  rw [pathB_eq l h]; exact walkL_pos _ _ _ (pieces_ne _)
theorem path_room (l : Bs) (h : l.length ≤ 200) : (pathPut (pathB pS l)).length ≤ 3 * l.length + 1 := by
  rw [pathB_eq l h]
  have h1 := walkL_room (pieces (offSlash l)) []
  have h2 := room_pieces (offSlash l)
  have h3 := offSlash_len l
  have h4 : (pathPut []).length = 0 := rfl
  omega
theorem path_put (p : List Bs) (h : p ≠ []) (ho : ∀ e ∈ p, Own e) (hl : (pathPut p).length ≤ 200) : pathB pS (pathPut p) = p := by
  rw [pathB_eq _ hl, pieces_put p h (fun e he => (ho e he).2.2), walkL_self p [] ho]; rfl

def tot (l : List ByteArray) : Nat := (l.map ByteArray.size).sum
theorem tot_take (l : List ByteArray) (i : Nat) (h : i < l.length) : tot (l.take (i + 1)) = tot (l.take i) + l[i].size := by
  unfold tot; rw [List.take_succ_eq_append_getElem h, List.map_append, List.sum_append]; simp
theorem tot_take_le (l : List ByteArray) (i : Nat) : tot (l.take i) ≤ tot l := by
  conv => rhs; rw [← List.take_append_drop i l]
  unfold tot; rw [List.map_append, List.sum_append]; omega
theorem rd_strs (l : List ByteArray) (i : Nat) (h : i < l.length) : rdOf ByteArray.empty l ((i : Nat) : Int) = l[i] := by
  unfold rdOf
  rw [Int.toNat_natCast, List.getD_eq_getElem?_getD, List.getElem?_eq_getElem h]; rfl

theorem segs_len (l : List ByteArray) (i : Nat) : (pathPut (segs (l.take i))).length = (l.take i).length + tot (l.take i) := by
  generalize l.take i = m
  induction m with
  | nil => rfl
  | cons a t ih =>
    have e1 : pathPut (segs (a :: t)) = (47 :: a.data.toList) ++ pathPut (segs t) := rfl
    have e2 : tot (a :: t) = a.size + tot t := rfl
    rw [e1, e2, List.length_append, ih, List.length_cons, List.length_cons]
    have : a.data.toList.length = a.size := by simp
    omega
theorem spec_Put (l : List ByteArray) (hl : l.length ≤ 1048576) (ht : tot l ≤ 1048576) : Ev (fun k => spec_PathPut.f k l) (B (pathPut (segs l))) := by
  unfold spec_PathPut.f
  have go : ∀ (d i : Nat), i + d = l.length → Ev (fun k => spec_PathPut.l0 k l (B (pathPut (segs (l.take i)))) i) (B (pathPut (segs l))) := by
    intro d
    induction d with
    | zero =>
      intro i hi
      refine ev_1 fun k => ?_
      simp only [spec_PathPut.l0]
      rw [if_neg (by omega), List.take_of_length_le (by omega)]
    | succ d ih =>
      intro i hi
      have hlt : i < l.length := by omega
      have hi0 : (0 : Int) ≤ (i : Int) := by omega
      have hi1 : (i : Int) < (l.length : Int) := by omega
      have hw : wrap64 ((i : Int) + 1) = ((i + 1 : Nat) : Int) := by rw [w64 (by omega) (by omega)]; rfl
      have h1 := segs_len l i
      have h2 := tot_take_le l i
      have h3 := tot_take l i hlt
      have h4 := tot_take_le l (i + 1)
      have hlen : (l.take i).length = i := by simp; omega
      obtain ⟨q, hq⟩ := exB l[i]
      have hqs : l[i].size = q.length := by rw [hq, B_size]
      have e := ih (i + 1) (by omega)
      have hst : segs (l.take (i + 1)) = segs (l.take i) ++ [q] := by
        unfold segs; rw [List.take_succ_eq_append_getElem hlt, List.map_append, hq]; simp
      rw [hst, pathPut_snoc] at e
      refine Ev.step (fun k => by rw [spec_PathPut.l0]) ?_
      have hd : (⟨#[47]⟩ : ByteArray) = B [47] := rfl
      simp only [if_pos hi1, if_pos hi0, rd_strs l i hlt, hq, hd, B_append, B_size, hw, if_pos (show (pathPut (segs (l.take i))).length + 1 ≤ 9223372036854775807 by omega),
        if_pos (show (pathPut (segs (l.take i)) ++ [47]).length + q.length ≤ 9223372036854775807 by simp; omega)]
      simpa using e
  exact go l.length 0 (by omega)

theorem impl_Put (p : List Bs) (h1 : p.length ≤ 1000000) (h2 : (pathPut p).length ≤ 1000000) : impl_PathPut.f (p.map B) = some (B (pathPut p)) := by
  have hs : segs (p.map B) = p := by
    unfold segs; rw [List.map_map]
    conv => rhs; rw [← List.map_id p]
    exact List.map_congr_left fun x _ => B_data x
  unfold impl_PathPut.f
  rw [hs, List.length_map, if_pos (by omega)]
theorem tot_put (p : List Bs) : (pathPut p).length = p.length + tot (p.map B) := by
  induction p with
  | nil => rfl
  | cons e t ih =>
    have e1 : pathPut (e :: t) = (47 :: e) ++ pathPut t := rfl
    have e2 : tot ((e :: t).map B) = (B e).size + tot (t.map B) := by simp [tot]
    rw [e1, e2, List.length_append, ih, List.length_cons, List.length_cons, B_size]; omega
theorem spec_Put1 (p : List Bs) (h1 : (pathPut p).length ≤ 1000000) : Ev (fun k => spec_PathPut.f k (p.map B)) (B (pathPut p)) := by
  have ht := tot_put p
  have := spec_Put (p.map B) (by rw [List.length_map]; omega) (by omega)
  have hs : segs (p.map B) = p := by
    unfold segs; rw [List.map_map]
    conv => rhs; rw [← List.map_id p]
    exact List.map_congr_left fun x _ => B_data x
  rw [hs] at this
  exact this
theorem law_l0 (p : List Bs) (h : p ≠ []) (ho : ∀ e ∈ p, Own e) (hl : (pathPut p).length ≤ 200) (d : Nat) : ∀ i : Nat, i + d = p.length → Ev (fun k => laws_FnPath.l0 k (p.map B) i) true := by
  have hpl : p.length ≤ 200 := by have := tot_put p; omega
  induction d with
  | zero =>
    intro i hi
    refine Ev.step (fun k => by rw [laws_FnPath.l0]) ?_
    simp only [List.length_map, if_neg (show ¬ (i : Int) < (p.length : Int) by omega)]
    simp only [impl_Put p (by omega) (by omega), Option.bind_some, impl_Path, path_put p h ho hl]
    refine ev_bind (texts_same p (by omega)) ?_
    simp only [if_true]
    refine ev_bind (spec_Put1 p (by omega)) ?_
    simp only [beq_self_eq_true]
    exact Ev.now _
  | succ d ih =>
    intro i hi
    have hlt : i < p.length := by omega
    have hi0 : (0 : Int) ≤ (i : Int) := by omega
    have hi1 : (i : Int) < (p.length : Int) := by omega
    have hw : wrap64 ((i : Int) + 1) = ((i + 1 : Nat) : Int) := by rw [w64 (by omega) (by omega)]; rfl
    have h0 := (ho p[i] (List.getElem_mem hlt)).1
    have n1 : ¬ p[i] = [46] := fun q => by rw [q] at h0; exact absurd h0 (by decide +kernel)
    have n2 : ¬ p[i] = [46, 46] := fun q => by rw [q] at h0; exact absurd h0 (by decide +kernel)
    refine Ev.step (fun k => by rw [laws_FnPath.l0]) ?_
    simp only [List.length_map, if_pos hi1, if_pos hi0, rd_map p i hlt, B_toList, if_neg n1, if_neg n2, hw]
    exact ih (i + 1) (by omega)
theorem FnPath : laws_FnPath.Pure := by
  intro l0 _ _ hb
  refine Ev.rounds ?_
  unfold laws_FnPath.f
  by_cases hl : (l0.length : Int) > 1048576
  · simp only [if_pos hl]; exact Ev.now _
  simp only [if_neg hl]
  obtain ⟨l, hn, hd⟩ := draw_path l0 hb
  refine ev_bind hd ?_
  simp only [impl_Path l, Option.bind_some]
  refine ev_bind (spec_Path l) ?_
  have hown := path_own l (by omega)
  have hne := path_ne l (by omega)
  have hroom := path_room l (by omega)
  generalize pathB pS l = p at hown hne hroom
  have hpl : p.length ≤ 200 := by have := tot_put p; omega
  refine ev_bind (texts_same p (by omega)) ?_
  have hz : 0 < p.length := List.length_pos_iff.2 hne
  have hb0 : ((p.length : Int) == 0) = false := by rw [beq_eq_false_iff_ne]; omega
  simp only [if_true, List.length_map, hb0]
  refine Ev.step (fun k => by rw [laws_FnPath.j0]) ?_
  simp only [Bool.false_eq_true, if_false]
  exact law_l0 p hne hown (by omega) p.length 0 (by omega)

end Go.Proofs.YtekeimhhffnjpaaDoor.Pure
