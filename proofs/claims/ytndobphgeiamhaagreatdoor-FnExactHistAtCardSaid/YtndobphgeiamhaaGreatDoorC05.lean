/- Texts of this claim, joined: HEntN. Conditions: each theorem's own. -/
import Derived.Test.YtndobphgeiamhaaGreatDoorA01
import Derived.Test.YtndobphgeiamhaaGreatDoorA02
import Derived.Test.YtndobphgeiamhaaGreatDoorA03
import Derived.Test.YtndobphgeiamhaaGreatDoorA04
import Derived.Test.YtndobphgeiamhaaGreatDoorA05
import Derived.Test.YtndobphgeiamhaaGreatDoorA06
import Derived.Test.YtndobphgeiamhaaGreatDoorA07
import Derived.Test.YtndobphgeiamhaaGreatDoorA08
import Derived.Test.YtndobphgeiamhaaGreatDoorA09
import Derived.Test.YtndobphgeiamhaaGreatDoorA10
import Derived.Test.YtndobphgeiamhaaGreatDoorA11
import Derived.Test.YtndobphgeiamhaaGreatDoorA12
import Derived.Test.YtndobphgeiamhaaGreatDoorA13
import Derived.Test.YtndobphgeiamhaaGreatDoorA14
import Derived.Test.YtndobphgeiamhaaGreatDoorA15
import Derived.Test.YtndobphgeiamhaaGreatDoorA16
import Derived.Test.YtndobphgeiamhaaGreatDoorA17
import Derived.Below
import Derived.Deep.Draws
import Derived.Deep.AppendLies
import Derived.Maps.AppendAt
import Derived.OwnWalk
import Derived.Laws.BytesArg
import Derived.Laws.MakeOwn
import Derived.Laws.OwnMore
import Derived.Deep.OwnRows
import Derived.Tactics
import Derived.Lib.ConvBytes
import Derived.Laws.Slices
import Derived.WalkKit
import Derived.KernelRfl
import Derived.RowKit3
import Derived.Deep.LoopGhost
import Derived.Deep.QuietTactic
import Derived.BigQuiet
import Derived.WideLaws
import Derived.Deep.DeepCutAuto
import Derived.Deep.CutBlock
import Derived.Deep.RegionHeld3
import Derived.Laws.Rows
import Derived.Lib.AppendStr
import Derived.ArgAppend
import Derived.Laws.IdiomCopy
import Derived.RowKit
import Derived.OrdersHeld
import Derived.Laws.BitsLemmas
import Derived.Lib.Strings
import Derived.Lib.SmallJoins
import Derived.Lib.LaidTab
import Derived.Lib.ItoaNum
import Derived.SizedLaws
import Derived.Handed
import Derived.LaidMore
import Derived.Stop.Joined
import Derived.Lib.Slices
import Derived.Lib.Walk
import Derived.Lib.Builder
import Derived.Lib.UnsafeStr
import Derived.Lib.MakeNoZero
import Derived.Laws.Externs
import Derived.Shelf.RegionOpenPlain
import Derived.Lib.Split
import Derived.Lib.Replace
import Derived.Lib.ReplaceLaws
import Derived.Lib.IndexLaws
import Derived.Lib.IndexMore
import Derived.Lib.CountLaws
import Derived.Shelf.Strings.Builder1
import Derived.Shelf.Strings.Builder2
import Derived.Shelf.Strings.OnBuilder
import Derived.Shelf.Small.Utf8
import Derived.Shelf.Small.Strs
import Derived.Shelf.Strconv.Itoa0
import Derived.Shelf.Strconv.Itoa1
import Derived.Shelf.LaysM
import Derived.Shelf.Strconv.Itoa2
import Derived.Shelf.Strconv.Itoa3
import Derived.Shelf.Strings.Search1
import Derived.Shelf.Strings.Search2
import Derived.Shelf.Strings.Search3
import Derived.Shelf.Strings.Cut
import Derived.Shelf.Strings.Count
import Derived.Shelf.Strings.Shaped
import Derived.Shelf.Strings.LastIndex
import Derived.Shelf.Strings.Prefix
import Derived.Shelf.Strings.Split
import Derived.Shelf.Strings.Replace
import Derived.Shelf.Strings.Runes
import Derived.Shelf.Strings.IndexAny
import Derived.Shelf.Strings.AsciiSet
import Derived.Shelf.Strings.IndexAnyAll
import Derived.Shelf.Unicode.DecodeSlow
import Derived.Shelf.Slices.Turned
import Derived.Ground.Names2Prog
import Derived.Shelf.Slices.Clone
import Derived.Lib.SplitLaws
import Derived.Lib.Hide
import Derived.Laws.AppendOwn
import Derived.Outline
import Derived.Sort.Grow
import Derived.Laws.StructEq
import Derived.StillTailTactics
import Derived.Deep.RegionWith
import Derived.Lib.Bytealg
import Derived.WalkSmall
import Derived.Lib.IndexAny
import Derived.Lib.LastIndexByte
import Derived.Laws.RangeString
import Derived.Laws.Strings3
import Derived.WalkMore
import Derived.WalkSpells
import Derived.Deep.Strs
import Derived.SliceStrings
import Derived.ChangeArms
import Derived.OpenShut
import Derived.Test.YtndobphgeiamhaaGreatDoorC01
import Derived.Test.YtndobphgeiamhaaGreatDoorC04
set_option linter.unusedVariables false
namespace Go.Proofs.YtndobphgeiamhaaGreatDoor.H
open Go.RowKit Go.Proofs.YtndobphgeiamhaaGreatDoorW.PrintWords Go.Proofs.YtndobphgeiamhaaGreatDoor.Base Go.Proofs.YtndobphgeiamhaaGreatDoor.Pure
def stepE (es : List En) (i : Nat) : Int := (es[i]?.map En.step).getD 0
def keyE (es : List En) (i : Nat) : Int := (es[i]?.map En.key).getD 0
theorem stepE_at {es : List En} {i : Nat} (h : i < es.length) : stepE es i = es[i].step := by simp [stepE, h]
theorem keyE_at {es : List En} {i : Nat} (h : i < es.length) : keyE es i = es[i].key := by simp [keyE, h]
def okE (es : List En) (i : Nat) : Bool := ((es[i]?.map oneV).getD true) && ((decide (i = 0) || decide (stepE es (i - 1) < stepE es i)) && decide (∀ j, j < i → keyE es j ≠ keyE es i))
def histOkV (es : List En) : Bool := decide (∀ i, i < es.length → okE es i = true) && decide (es.length ≤ 20)
theorem okE_at {es : List En} {i : Nat} (h : i < es.length) : okE es i = (oneV es[i] && ((decide (i = 0) || decide (stepE es (i - 1) < stepE es i)) && decide (∀ j, j < i → keyE es j ≠ keyE es i))) := by
  unfold okE; simp [h]
theorem hist_bad {es : List En} (k : Nat) (h : k < es.length) (hk : okE es k = false) : histOkV es = false := by
  unfold histOkV
  rw [decide_eq_false fun q => by rw [q k h] at hk; cases hk]; rfl
theorem hist_all {es : List En} (h : ∀ i, i < es.length → okE es i = true) : histOkV es = decide (es.length ≤ 20) := by
  unfold histOkV; rw [decide_eq_true h]; rfl
theorem okE_step {es : List En} {i : Nat} (h : i < es.length) (hk : okE es i = true) : 0 ≤ stepE es i ∧ stepE es i ≤ 60 := by
  rw [okE_at h] at hk
  have h1 : oneV es[i] = true := by simp only [Bool.and_eq_true] at hk; exact hk.1
  have h2 : inV es[i].step 0 60 = true := by unfold oneV at h1; simp only [Bool.and_eq_true] at h1; exact h1.1
  unfold inV at h2
  simp only [Bool.and_eq_true, decide_eq_true_eq] at h2
  rw [stepE_at h]; exact h2
def lastE (es : List En) (i : Nat) : Int := if i = 0 then -1 else stepE es (i - 1)
theorem lastE_bound {es : List En} {k : Nat} (h : k ≤ es.length) (hall : ∀ j, j < k → okE es j = true) : -1 ≤ lastE es k ∧ lastE es k ≤ 60 := by
  unfold lastE
  split
  · omega
  · have := okE_step (es := es) (i := k - 1) (by omega) (hall _ (by omega)); omega
theorem lastE_step {es : List En} {k : Nat} (h : k < es.length) : lastE es (k + 1) = es[k].step := by
  unfold lastE; rw [if_neg (by omega), Nat.add_sub_cancel, stepE_at h]
theorem okE_impl {es : List En} {k : Nat} (h : k < es.length) (hall : ∀ j, j < k → okE es j = true) :
    okE es k = (inV es[k].step (lastE es k + 1) 60 && (okU es[k].u && (inV es[k].doc 0 9999 && (inV es[k].key 0 9999 && ((keyV es es[k].key == (k : Int)) && decide (es[k].st.length ≤ 20)))))) := by
  have hb := lastE_bound (Nat.le_of_lt h) hall
  have hk : (keyV es es[k].key == (k : Int)) = decide (∀ j, j < k → keyE es j ≠ keyE es k) := by
    rw [Bool.eq_iff_iff, beq_iff_eq, decide_eq_true_eq]
    constructor
    · intro e j hj q
      rw [keyE_at (by omega), keyE_at h] at q
      have hnn : ∀ n, es.findIdx? (fun x => x.key == es[k].key) = some n → n ≤ j := fun n hn => by
        obtain ⟨h1, h2, h3⟩ := List.findIdx?_eq_some_iff_getElem.1 hn
        by_cases c : n ≤ j
        · exact c
        · exact absurd (by simpa using q) (h3 j (by omega))
      unfold keyV at e
      cases hf : es.findIdx? (fun x => x.key == es[k].key) with
      | none => rw [hf] at e; simp only at e; omega
      | some n => rw [hf] at e; simp only at e; have := hnn n hf; omega
    · intro q
      exact keyV_some k h rfl fun j hj hjk e => q j hjk (by rw [keyE_at hj, keyE_at h]; exact e)
  have hs : (inV es[k].step 0 60 && (decide (k = 0) || decide (stepE es (k - 1) < stepE es k))) = inV es[k].step (lastE es k + 1) 60 := by
    unfold inV
    rw [Bool.eq_iff_iff]
    simp only [Bool.and_eq_true, Bool.or_eq_true, decide_eq_true_eq]
    rw [stepE_at h]
    by_cases c : k = 0
    · have e : lastE es k = -1 := by unfold lastE; rw [if_pos c]
      rw [e]; omega
    · have e : lastE es k = stepE es (k - 1) := by unfold lastE; rw [if_neg c]
      rw [e] at hb ⊢; omega
  rw [okE_at h, hk, ← hs]
  unfold oneV
  cases inV es[k].step 0 60 <;> cases okU es[k].u <;> cases inV es[k].doc 0 9999 <;> cases inV es[k].key 0 9999 <;> cases (decide (k = 0) || decide (stepE es (k - 1) < stepE es k)) <;> simp [Bool.and_comm]
end Go.Proofs.YtndobphgeiamhaaGreatDoor.H
