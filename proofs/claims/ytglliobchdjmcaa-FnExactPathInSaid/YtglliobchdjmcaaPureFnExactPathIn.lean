/- The pure side of the law FnExactPathIn: what the printed functions tell is what the law says, for every input within the law's bounds. -/
import Derived.Test.YtglliobchdjmcaaPFnExactPathInx1
import Derived.Test.YtglliobchdjmcaaBase
set_option linter.unusedVariables false
set_option linter.unusedSimpArgs false
namespace Go.Proofs.Ytglliobchdjmcaa.Pure
open Go.RowKit Go.Proofs.Ytglliobchdjmcaa.PFnExactPathIn Go.Proofs.YtglliobchdjmcaaW.PrintWords Go.Proofs.YtglliobchdjmcaaW.PrintLast Go.Proofs.Ytglliobchdjmcaa.Base

/-- path is below b: it goes on from it at a slash. -/
def pathIn (p b : Bs) : Bool := decide (b ≠ []) && b.isPrefixOf p && (decide (p.length = b.length) || decide (b[b.length - 1]?.getD 0 = 47) || decide (p[b.length]?.getD 0 = 47))

theorem b47 (x : UInt8) : ((x.toNat : Int) = 47) ↔ x = 47 := byte_eq x 47 (by decide)
theorem take_prefix (p b : Bs) : (b.length ≤ p.length ∧ p.take b.length = b) ↔ b.isPrefixOf p = true := by
  rw [List.isPrefixOf_iff_prefix]
  constructor
  · rintro ⟨_, h⟩; rw [← h]; exact List.take_prefix _ _
  · intro h; exact ⟨h.length_le, by obtain ⟨t, rfl⟩ := h; simp⟩

theorem spec_PathIn (p b : Bs) (hp : p.length ≤ 140737488355328) (hb : b.length ≤ 140737488355328) : spec_PathIn.f (B p) (B b) = some (pathIn p b) := by
  unfold spec_PathIn.f pathIn
  simp only [B_size, B_extract, B_toList, bt_B, b47]
  by_cases h0 : b = []
  · subst h0; simp
  · have hl : 0 < b.length := List.length_pos_iff.2 h0
    rw [if_neg (by omega)]
    have tp := take_prefix p b
    by_cases h1 : (p.length : Int) < b.length
    · rw [if_pos h1]
      have : b.isPrefixOf p = false := by
        cases h : b.isPrefixOf p
        · rfl
        · have := (tp.2 h).1; omega
      simp [this]
    · rw [if_neg h1, if_pos (by omega), if_pos (by omega)]
      have h1' : b.length ≤ p.length := by omega
      rw [w64 (by omega) (by omega)]
      have e1 : ((b.length : Int)).toNat = b.length := by omega
      have e2 : ((b.length : Int) - 1).toNat = b.length - 1 := by omega
      simp only [e1, e2, Nat.sub_zero, List.drop_zero]
      by_cases h2 : p.take b.length = b
      · have h2' := tp.1 ⟨h1', h2⟩
        rw [if_pos h2, h2']
        by_cases h3 : p.length = b.length
        · rw [if_pos (by omega)]; simp [h0, h3]
        · rw [if_neg (by omega), if_pos (by omega), if_pos (by omega)]
          by_cases h4 : b[b.length - 1]?.getD 0 = 47
          · rw [if_pos h4]; simp [h0, h4]
          · rw [if_neg h4, if_pos (by omega)]
            simp only [h0, h3, h4, decide_true, decide_false, Bool.false_or, Bool.true_and, ne_eq, not_false_eq_true, Option.some.injEq]
            exact bool_eq (by rw [beq_iff_eq, b47, decide_eq_true_eq])
      · rw [if_neg h2]
        have : b.isPrefixOf p = false := by
          cases h : b.isPrefixOf p
          · rfl
          · exact absurd (tp.2 h).2 h2
        simp [this]

theorem HasPrefix_ (p b : Bs) : stringslite_HasPrefix.f (B p) (B b) = some (b.isPrefixOf p) := by
  unfold stringslite_HasPrefix.f
  simp only [B_size, B_extract, B_toList]
  have tp := take_prefix p b
  have e1 : ((b.length : Int)).toNat = b.length := by omega
  simp only [e1, Nat.sub_zero, List.drop_zero]
  by_cases h1 : (p.length : Int) ≥ b.length
  · rw [if_pos h1, if_pos (by omega), if_pos (by omega)]
    have h1' : b.length ≤ p.length := by omega
    congr 1
    exact bool_eq (by rw [beq_iff_eq, ← tp]; simp [h1'])
  · rw [if_neg h1]
    simp only [Option.some.injEq]
    cases h : b.isPrefixOf p
    · rfl
    · have := (tp.2 h).1; omega
theorem CutPrefix_ (p b : Bs) : stringslite_CutPrefix.f (B p) (B b) = some (if b.isPrefixOf p then (B (p.drop b.length), true) else (B p, false)) := by
  unfold stringslite_CutPrefix.f
  rw [HasPrefix_]
  simp only [Option.bind_some, B_size, B_extract]
  have tp := take_prefix p b
  have e1 : ((b.length : Int)).toNat = b.length := by omega
  by_cases h : b.isPrefixOf p = true
  · have := (tp.2 h).1
    rw [if_pos h, if_pos (by omega), if_pos (by omega), h]
    simp only [e1, if_true]
    rw [List.take_of_length_le (by simp)]
  · rw [if_neg h, if_neg h]
theorem CutPrefix_s (p b : Bs) : strings_CutPrefix.f (B p) (B b) = some (if b.isPrefixOf p then (B (p.drop b.length), true) else (B p, false)) := by
  unfold strings_CutPrefix.f; rw [CutPrefix_]; simp
theorem HasSuffix_47 (b : Bs) (hb : b.length ≤ 140737488355328) : strings_HasSuffix.f (B b) (B [47]) = some (decide (b ≠ []) && decide (b[b.length - 1]?.getD 0 = 47)) := by
  unfold strings_HasSuffix.f stringslite_HasSuffix.f
  simp only [B_size, B_extract, B_toList, List.length_singleton]
  by_cases h1 : (b.length : Int) ≥ ((1 : Nat) : Int)
  · rw [if_pos h1, w64 (by omega) (by omega), if_pos (by omega), if_pos (by omega)]
    have e2 : ((b.length : Int) - ((1 : Nat) : Int)).toNat = b.length - 1 := by omega
    have hne : b ≠ [] := by intro h; subst h; simp at h1
    simp only [e2, Option.bind_some, Option.some.injEq, hne, ne_eq, not_false_eq_true, decide_true, Bool.true_and]
    have : List.take (b.length - (b.length - 1)) (List.drop (b.length - 1) b) = [b[b.length - 1]?.getD 0] := by
      have e : b.length - (b.length - 1) = 1 := by omega
      rw [e, List.drop_eq_getElem_cons (by omega)]
      rw [List.take_succ_cons, List.take_zero, List.getElem?_eq_getElem (by omega)]; rfl
    rw [this]
    exact bool_eq (by simp)
  · rw [if_neg h1]
    have : b = [] := List.length_eq_zero_iff.1 (by omega)
    subst this; simp
theorem impl_PathIn (p b : Bs) (hp : p.length ≤ 140737488355328) (hb : b.length ≤ 140737488355328) : impl_PathIn.f (B p) (B b) = some (pathIn p b) := by
  unfold impl_PathIn.f pathIn
  have e47 : (⟨#[47]⟩ : ByteArray) = B [47] := rfl
  rw [CutPrefix_s, e47, HasSuffix_47 b hb]
  have tp := take_prefix p b
  simp only [Option.bind_some, B_toList]
  by_cases h0 : b = []
  · subst h0; simp
  · rw [if_neg h0]
    by_cases h : b.isPrefixOf p = true
    · obtain ⟨h1, h2⟩ := tp.2 h
      simp only [h, if_true, B_toList, B_size, bt_B]
      by_cases h3 : p.length = b.length
      · rw [if_pos (List.drop_eq_nil_of_le (by omega))]; simp [h0, h3]
      · have hd : p.drop b.length ≠ [] := by intro hh; have := congrArg List.length hh; simp at this; omega
        rw [if_neg hd]
        by_cases h4 : b[b.length - 1]?.getD 0 = 47
        · simp [h0, h4]
        · simp only [h0, h4, ne_eq, not_false_eq_true, decide_true, decide_false, Bool.and_false, Bool.false_eq_true, if_false, h3, Bool.false_or, Bool.true_and]
          rw [if_pos (by simp; omega)]
          congr 1
          exact bool_eq (by rw [beq_iff_eq, b47, decide_eq_true_eq]; simp)
    · have h' : b.isPrefixOf p = false := Bool.eq_false_iff.2 h
      simp [h', h0]

theorem FnExactPathIn : laws_FnExactPathIn.Pure := by
  intro a0 a1 h0 h1
  obtain ⟨p, rfl, hp⟩ := exBn a0 _ h0
  obtain ⟨b, rfl, hb⟩ := exBn a1 _ h1
  unfold laws_FnExactPathIn.f
  rw [spec_PathIn p b (by omega) (by omega), impl_PathIn p b (by omega) (by omega)]
  simp

end Go.Proofs.Ytglliobchdjmcaa.Pure
