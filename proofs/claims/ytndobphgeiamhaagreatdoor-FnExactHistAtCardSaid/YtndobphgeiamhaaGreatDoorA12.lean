/- Texts of this claim, joined: UrlM, UrlW, HUrlE, UrlB, UrlC, HUrlT, HUrlP, HUrlC, HUrlD. Conditions: each theorem's own. -/
import Derived.Test.YtndobphgeiamhaaGreatDoorA03
import Derived.Test.YtndobphgeiamhaaGreatDoorA02
import Derived.Test.YtndobphgeiamhaaGreatDoorA05
import Derived.Test.YtndobphgeiamhaaGreatDoorA11
import Derived.Lib.IndexAny
import Derived.Lib.LastIndexByte
import Derived.Test.YtndobphgeiamhaaGreatDoorProg
import Derived.Tactics
import Derived.Deep.RegionHeld3
import Derived.Deep.QuietTactic
import Derived.BigQuiet
import Derived.Deep.LoopGhost
import Derived.Lib.Hide
import Derived.Test.YtndobphgeiamhaaGreatDoorA04
import Derived.KernelRfl
import Derived.RowKit3
import Derived.Laws.Slices
import Derived.Laws.Rows
import Derived.RowKit
import Derived.Outline
import Derived.WalkSmall
import Derived.Deep.DeepCutAuto
/- Of no program: how an address is read and written; plain lists of bytes. No condition. -/
namespace Go.Proofs.YtndobphgeiamhaaGreatDoor.H
open Go.RowKit Go.Proofs.YtndobphgeiamhaaGreatDoorW.PrintWords Go.Proofs.YtndobphgeiamhaaGreatDoor.Base Go.Proofs.YtndobphgeiamhaaGreatDoor.Pure

/-! What cannot be seen is taken away at both ends; line ends and tabs anywhere. -/
def low (c : UInt8) : Bool := decide (c.toNat ≤ 32)
def lend (c : UInt8) : Bool := c == 9 || c == 10 || c == 13
def ltrim (l : Bs) : Bs := l.dropWhile low
def rtrim (l : Bs) : Bs := (l.reverse.dropWhile low).reverse
def noEnds (l : Bs) : Bs := l.filter fun c => !lend c
def trimU (l : Bs) : Bs := noEnds (rtrim (ltrim l))
theorem rtrim_snoc (l : Bs) (c : UInt8) : rtrim (l ++ [c]) = if low c = true then rtrim l else l ++ [c] := by
  unfold rtrim
  rw [List.reverse_append]
  simp only [List.reverse_cons, List.reverse_nil, List.nil_append, List.singleton_append, List.dropWhile_cons]
  split <;> simp
theorem ltrim_cons (l : Bs) (c : UInt8) : ltrim (c :: l) = if low c = true then ltrim l else c :: l := by
  unfold ltrim; rw [List.dropWhile_cons]
theorem ltrim_at (l : Bs) (i : Nat) (h : i < l.length) : ltrim (l.drop i) = if low l[i] = true then ltrim (l.drop (i + 1)) else l.drop i := by
  rw [List.drop_eq_getElem_cons h, ltrim_cons]
theorem rtrim_at (l : Bs) (i : Nat) (h : i < l.length) : rtrim (l.take (i + 1)) = if low l[i] = true then rtrim (l.take i) else l.take (i + 1) := by
  rw [List.take_succ_eq_append_getElem h, rtrim_snoc]
theorem ltrim_len (l : Bs) : (ltrim l).length ≤ l.length := (List.dropWhile_sublist _).length_le
theorem rtrim_len (l : Bs) : (rtrim l).length ≤ l.length := by
  unfold rtrim; rw [List.length_reverse]
  exact Nat.le_trans ((List.dropWhile_sublist _).length_le) (by simp)
theorem noEnds_len (l : Bs) : (noEnds l).length ≤ l.length := List.length_filter_le _ _
theorem trimU_len (l : Bs) : (trimU l).length ≤ l.length := Nat.le_trans (noEnds_len _) (Nat.le_trans (rtrim_len _) (ltrim_len _))
theorem noEnds_take (l : Bs) (i : Nat) (h : i < l.length) : noEnds (l.take (i + 1)) = noEnds (l.take i) ++ (if lend l[i] = true then [] else [l[i]]) := by
  rw [List.take_succ_eq_append_getElem h]
  unfold noEnds
  rw [List.filter_append]
  congr 1
  cases h : lend l[i] <;> simp [h]

/-! The scheme ahead of a colon, and what is behind it. -/
def schC (c : UInt8) : Bool := isLet c || isDig c || c == 43 || c == 45 || c == 46
def schOk (s : Bs) : Bool := !s.isEmpty && isLet (s.headD 0) && s.all schC
def schemeV (l : Bs) : Option (Bs × Bs) := if l.contains 58 && schOk (cutAh 58 l) then some (lower (cutAh 58 l), cutBe 58 l) else none
theorem schC_58 : schC 58 = false := by decide
theorem scheme_at (l : Bs) (i : Nat) (h : i < l.length) (hp : (l.take i).all schC = true) (h0 : 0 < i → isLet (l.headD 0) = true) :
    (l[i] = 58 → 0 < i → schemeV l = some (lower (l.take i), l.drop (i + 1))) ∧
    (l[i] = 58 → i = 0 → schemeV l = none) ∧
    (l[i] ≠ 58 → schC l[i] = false → schemeV l = none) ∧
    (i = 0 → isLet l[i] = false → schemeV l = none) := by
  have hne : ∀ x ∈ l.take i, x ≠ 58 := fun x hx q => by
    have := List.all_eq_true.1 hp x hx
    rw [q, schC_58] at this; cases this
  have hs : l = l.take i ++ l[i] :: l.drop (i + 1) := by
    conv => lhs; rw [← List.take_append_drop i l]
    rw [List.drop_eq_getElem_cons h]
  have hhead : 0 < i → (l.take i).headD 0 = l.headD 0 := fun hi => by
    obtain ⟨j, rfl⟩ : ∃ j, i = j + 1 := ⟨i - 1, by omega⟩
    cases l with
    | nil => simp at h
    | cons a t => rfl
  refine ⟨fun e hi => ?_, fun e hi => ?_, fun e hc => ?_, fun hi hc => ?_⟩
  · have e1 : cutAh 58 l = l.take i := by conv => lhs; rw [hs, e]
                                          exact cutAh_cut 58 _ _ hne
    have e2 : cutBe 58 l = l.drop (i + 1) := by conv => lhs; rw [hs, e]
                                                exact cutBe_cut 58 _ _ hne
    have e3 : l.contains 58 = true := by
      rw [List.contains_eq_mem]; exact decide_eq_true (by rw [← e]; exact List.getElem_mem h)
    have e4 : schOk (l.take i) = true := by
      unfold schOk
      rw [hhead hi, h0 hi, hp]
      have : (l.take i).isEmpty = false := by
        cases hh : l.take i with
        | nil => have := congrArg List.length hh; rw [List.length_take, List.length_nil] at this; omega
        | cons _ _ => rfl
      rw [this]; rfl
    unfold schemeV
    rw [e1, e2, e3, e4]; rfl
  · subst hi
    have e1 : cutAh 58 l = [] := by
      cases l with
      | nil => simp at h
      | cons a t => exact if_pos e
    unfold schemeV
    rw [e1]
    have : schOk [] = false := by decide
    rw [this, Bool.and_false]; rfl
  · have hm : schOk (cutAh 58 l) = true → False := fun q => by
      unfold schOk at q
      have h3 := (Bool.and_eq_true_iff.1 q).2
      have hin : l[i] ∈ cutAh 58 l := by
        have e1 : cutAh 58 l = l.take i ++ l[i] :: cutAh 58 (l.drop (i + 1)) := by
          conv => lhs; rw [hs]
          generalize l.take i = a at hne
          clear hs hhead hp h0 q h3
          induction a with
          | nil => exact if_neg e
          | cons x t ih => rw [List.cons_append, cutAh, if_neg (hne x (by simp)), ih (fun y hy => hne y (by simp [hy]))]; rfl
        rw [e1]; simp
      have := List.all_eq_true.1 h3 _ hin
      rw [hc] at this; cases this
    unfold schemeV
    rw [if_neg]
    intro q
    exact hm (Bool.and_eq_true_iff.1 q).2
  · subst hi
    by_cases e : l[0] = 58
    · have e1 : cutAh 58 l = [] := by
        cases l with
        | nil => simp at h
        | cons a t => exact if_pos e
      unfold schemeV
      rw [e1]
      have : schOk [] = false := by decide
      rw [this, Bool.and_false]; rfl
    · have e1 : (cutAh 58 l).headD 0 = l[0] := by
        cases l with
        | nil => simp at h
        | cons a t => show (if a = 58 then [] else a :: cutAh 58 t).headD 0 = a; rw [if_neg (show ¬ a = 58 from e)]; rfl
      unfold schemeV schOk
      rw [e1, hc]; simp
theorem scheme_end (l : Bs) (hp : l.all schC = true) : schemeV l = none := by
  unfold schemeV
  have : l.contains 58 = false := by
    rw [List.contains_eq_mem]
    refine decide_eq_false fun q => ?_
    have := List.all_eq_true.1 hp _ q
    rw [schC_58] at this; cases this
  rw [this]; rfl
theorem all_take (p : UInt8 → Bool) (l : Bs) (i : Nat) (h : i < l.length) : (l.take (i + 1)).all p = ((l.take i).all p && p l[i]) := by
  rw [List.take_succ_eq_append_getElem h, List.all_append]; simp

/-! Up to the first of some bytes, and from there on. -/
def upA (S l : Bs) : Bs := l.takeWhile fun c => !S.contains c
def upR (S l : Bs) : Bs := l.dropWhile fun c => !S.contains c
theorem up_len (S l : Bs) : (upA S l).length + (upR S l).length = l.length := by
  have := congrArg List.length (List.takeWhile_append_dropWhile (p := fun c => !S.contains c) (l := l))
  rw [List.length_append] at this; exact this
theorem upA_take (S l : Bs) : upA S l = l.take (upA S l).length := (List.prefix_iff_eq_take.1 (List.takeWhile_prefix _))
theorem upR_drop (S l : Bs) : upR S l = l.drop (upA S l).length := by
  have h : upA S l ++ upR S l = l := List.takeWhile_append_dropWhile
  have e : (upA S l ++ upR S l).drop (upA S l).length = upR S l := List.drop_left ..
  rw [h] at e; exact e.symm
def ixS (S l : Bs) : Nat := (upA S l).length
theorem ixS_le (S l : Bs) : ixS S l ≤ l.length := by have := up_len S l; unfold ixS; omega
theorem ixS_cons (S : Bs) (c : UInt8) (l : Bs) : ixS S (c :: l) = if S.contains c = true then 0 else ixS S l + 1 := by
  unfold ixS upA
  rw [List.takeWhile_cons]
  cases h : S.contains c <;> simp
theorem ixS_at (S l : Bs) (i : Nat) (h : i < l.length) : ixS S (l.drop i) = if S.contains l[i] = true then 0 else ixS S (l.drop (i + 1)) + 1 := by
  rw [List.drop_eq_getElem_cons h, ixS_cons]

/-! A port: of figures alone, at most 65535; that of the scheme is not told. -/
def ownP (s : Bs) : Int := if s = [104, 116, 116, 112] then 80 else if s = [104, 116, 116, 112, 115] then 443 else -1
def portV (l : Bs) (own : Int) : Option Int := match dig 10 0 l with
  | none => none
  | some n => if 65535 < n then none else if l = [] ∨ n = own then some (-1) else some n
theorem dg_isDig (c : UInt8) : dg c = isDig c := by unfold dg isDig; rw [Bool.decide_and]
def capN : Int → Bs → Option Int
  | n, [] => some n
  | n, c :: t => if dg c = true then capN (min 65536 (10 * n + ((c.toNat : Int) - 48))) t else none
def capOk : Option Int → Option Int → Prop
  | none, none => True
  | some a, some b => a = min 65536 b
  | some a, none => a = 65536
  | none, some _ => False
theorem hexI_dg (c : UInt8) : (dg c = true → hexI c = (c.toNat : Int) - 48 ∧ 0 ≤ hexI c ∧ hexI c < 10) ∧ (dg c = false → hexI c < 0 ∨ hexI c ≥ 10) := by
  constructor
  · intro h
    have h1 := (dg_iff c).1 h
    unfold hexI
    rw [if_pos (by omega)]; omega
  · intro h
    have h1 : ¬ (48 ≤ c.toNat ∧ c.toNat ≤ 57) := fun q => by rw [(dg_iff c).2 q] at h; cases h
    unfold hexI
    rw [if_neg (by omega)]
    split
    · omega
    · split <;> omega
theorem capN_full : ∀ (l : Bs), capN 65536 l = none ∨ capN 65536 l = some 65536
  | [] => .inr rfl
  | c :: t => by
    unfold capN
    by_cases h : dg c = true
    · rw [if_pos h]
      have h1 := (dg_iff c).1 h
      have e : min 65536 (10 * 65536 + ((c.toNat : Int) - 48)) = 65536 := by omega
      rw [e]; exact capN_full t
    · rw [if_neg h]; exact .inl rfl
theorem cap_dig : ∀ (l : Bs) (n m : Int), 0 ≤ m → n = min 65536 m → (capN n l).isSome = l.all dg ∧ ((dig 10 m l).isSome = true → l.all dg = true) ∧ (∀ a, capN n l = some a → match dig 10 m l with | some b => a = min 65536 b | none => a = 65536)
  | [], n, m, hm, h => ⟨rfl, fun _ => rfl, fun a ha => by
      have : n = a := Option.some.inj ha
      show a = min 65536 m
      omega⟩
  | c :: t, n, m, hm, h => by
    unfold capN dig
    by_cases hd : dg c = true
    · obtain ⟨h1, h2⟩ := hexI_dg c
      obtain ⟨e1, e2, e3⟩ := h1 hd
      rw [if_pos hd]
      have hl : (c :: t).all dg = t.all dg := by simp [hd]
      rw [hl]
      by_cases hbig : m > 4294967295
      · rw [if_pos (Or.inr (Or.inr hbig))]
        have hn : n = 65536 := by omega
        have e : min 65536 (10 * n + ((c.toNat : Int) - 48)) = 65536 := by omega
        rw [e]
        obtain ⟨i1, i2, i3⟩ := cap_dig t 65536 65536 (by omega) (by omega)
        refine ⟨i1, fun q => absurd q (by simp), fun a ha => ?_⟩
        rcases capN_full t with q | q
        · rw [q] at ha; cases ha
        · rw [q] at ha; exact (Option.some.inj ha).symm
      · rw [if_neg (by omega)]
        exact cap_dig t _ _ (by omega) (by omega)
    · have hd' : dg c = false := by simpa using hd
      obtain ⟨h1, h2⟩ := hexI_dg c
      have h3 := h2 hd'
      rw [if_neg hd, if_pos (by omega)]
      refine ⟨by simp [hd'], fun q => by simp at q, fun a ha => by cases ha⟩
theorem cap_port (l : Bs) (own : Int) : (match capN 0 l with | none => none | some n => if 65535 < n then none else if l = [] ∨ n = own then some (-1) else some n) = portV l own := by
  obtain ⟨h1, h2, h3⟩ := cap_dig l 0 0 (by omega) (by omega)
  unfold portV
  cases hc : capN 0 l with
  | none =>
    rw [hc] at h1
    cases hd : dig 10 0 l with
    | none => rfl
    | some b => rw [hd] at h2; rw [← h1] at h2; simp at h2
  | some a =>
    have := h3 a hc
    cases hd : dig 10 0 l with
    | none => rw [hd] at this; subst this; rfl
    | some b =>
      rw [hd] at this
      show (if 65535 < a then none else if l = [] ∨ a = own then some (-1) else some a) = (if 65535 < b then none else if l = [] ∨ b = own then some (-1) else some b)
      have : a = min 65536 b := this
      by_cases q : 65535 < b
      · rw [if_pos q, if_pos (by omega)]
      · have e : a = b := by omega
        rw [e]
theorem capN_take (l : Bs) (i : Nat) (h : i < l.length) : capN 0 (l.take (i + 1)) = (capN 0 (l.take i)).bind fun n => if dg l[i] = true then some (min 65536 (10 * n + ((l[i].toNat : Int) - 48))) else none := by
  rw [List.take_succ_eq_append_getElem h]
  generalize l.take i = a
  generalize l[i] = c
  generalize (0 : Int) = z
  induction a generalizing z with
  | nil =>
    show capN z [c] = _
    unfold capN
    rfl
  | cons x t ih =>
    rw [List.cons_append, capN, capN]
    split
    · exact ih _
    · rfl

theorem capN_append : ∀ (a b : Bs) (z : Int), capN z (a ++ b) = (capN z a).bind fun n => capN n b
  | [], _, _ => rfl
  | x :: t, b, z => by
    rw [List.cons_append, capN, capN]
    split
    · exact capN_append t b _
    · rfl
theorem capN_none (l : Bs) (i : Nat) (h : i < l.length) (hd : dg l[i] = false) : capN 0 l = none := by
  have e : l = l.take (i + 1) ++ l.drop (i + 1) := (List.take_append_drop _ _).symm
  rw [e, capN_append, capN_take l i h, hd]
  cases capN 0 (l.take i) <;> rfl
/-! Who is ahead of the last at sign. -/
def lastAt : Nat → Int → Bs → Int
  | _, a, [] => a
  | i, a, c :: t => lastAt (i + 1) (if c = 64 then (i : Int) else a) t
def atN (l : Bs) : Int := lastAt 0 (-1) l
theorem lastAt_drop (l : Bs) (i : Nat) (h : i < l.length) (a : Int) : lastAt i a (l.drop i) = lastAt (i + 1) (if l[i] = 64 then (i : Int) else a) (l.drop (i + 1)) := by
  rw [List.drop_eq_getElem_cons h, lastAt]
theorem lastAt_none : ∀ (l : Bs) (i : Nat) (a : Int), (∀ x ∈ l, x ≠ 64) → lastAt i a l = a
  | [], _, _, _ => rfl
  | c :: t, i, a, h => by rw [lastAt, if_neg (h c (by simp)), lastAt_none t _ _ fun x hx => h x (by simp [hx])]
theorem lastAt_app : ∀ (a : Bs) (b : Bs) (i : Nat) (n : Int), lastAt i n (a ++ b) = lastAt (i + a.length) (lastAt i n a) b
  | [], _, _, _ => rfl
  | c :: t, b, i, n => by rw [List.cons_append, lastAt, lastAt_app t b, lastAt, List.length_cons, show i + 1 + t.length = i + (t.length + 1) by omega]
theorem atN_none (l : Bs) (h : ∀ x ∈ l, x ≠ 64) : atN l = -1 := lastAt_none l 0 _ h
theorem atN_cut (a b : Bs) (h : ∀ x ∈ b, x ≠ 64) : atN (a ++ 64 :: b) = a.length := by
  unfold atN
  rw [lastAt_app, lastAt, if_pos rfl, lastAt_none b _ _ h, Nat.zero_add]
theorem atN_cases : ∀ l : Bs, (atN l = -1 ∧ ∀ x ∈ l, x ≠ 64) ∨ ∃ a b, l = a ++ 64 :: b ∧ (∀ x ∈ b, x ≠ 64) ∧ atN l = a.length := fun l => by
  by_cases h : (64 : UInt8) ∈ l
  · have hr : ∃ a b, l = a ++ 64 :: b ∧ ∀ x ∈ b, x ≠ 64 := by
      induction l with
      | nil => cases h
      | cons c t ih =>
        by_cases q : (64 : UInt8) ∈ t
        · obtain ⟨a, b, e, hb⟩ := ih q
          exact ⟨c :: a, b, by rw [e]; rfl, hb⟩
        · rcases List.mem_cons.1 h with e | e
          · exact ⟨[], t, by rw [e]; rfl, fun x hx e => q (e ▸ hx)⟩
          · exact absurd e q
    obtain ⟨a, b, e, hb⟩ := hr
    exact .inr ⟨a, b, e, hb, by rw [e]; exact atN_cut a b hb⟩
  · have := fun x (hx : x ∈ l) (e : x = 64) => h (e ▸ hx)
    exact .inl ⟨atN_none l this, this⟩
theorem atN_lib (l : Bs) : Lib.lastIndexByte (B l) 64 = atN l := by
  have hget : ∀ j (hj : j < l.length), ((B l).data[j]!) = l[j] := fun j hj => by simp [B, hj]
  have hs := Lib.lastIndexByte_spec (B l) 64
  rw [B_size] at hs
  rcases atN_cases l with ⟨e, hn⟩ | ⟨a, b, e, hb, ha⟩
  · rw [e]
    rcases hs with ⟨h1, _⟩ | ⟨i, hi, h1, h2, _⟩
    · exact h1
    · rw [hget i hi] at h2
      exact absurd (UInt8.toNat_inj.1 (show l[i].toNat = (64 : UInt8).toNat by simp; omega)) (hn _ (List.getElem_mem hi))
  · rw [ha]
    have hlt : a.length < l.length := by rw [e]; simp
    have hat : l[a.length] = 64 := by simp [e]
    rcases hs with ⟨_, h2⟩ | ⟨i, hi, h1, h2, h3⟩
    · have := h2 a.length hlt
      rw [hget _ hlt, hat] at this
      exact absurd rfl this
    · rw [h1]
      rw [hget i hi] at h2
      rcases Nat.lt_trichotomy i a.length with q | q | q
      · have := h3 a.length q hlt
        rw [hget _ hlt, hat] at this
        exact absurd rfl this
      · rw [q]
      · have hm : l[i] ∈ b := by
          have h64 : l[i]? = some l[i] := List.getElem?_eq_getElem hi
          conv at h64 => lhs; rw [e]
          rw [List.getElem?_append_right (by omega), List.getElem?_cons, if_neg (by omega)] at h64
          exact List.mem_of_getElem? h64
        exact absurd (UInt8.toNat_inj.1 (show l[i].toNat = (64 : UInt8).toNat by simp; omega)) (hb _ hm)
theorem atN_rng (l : Bs) : -1 ≤ atN l ∧ atN l < l.length := by
  rcases atN_cases l with ⟨e, _⟩ | ⟨a, b, e, _, ha⟩
  · rw [e]; omega
  · rw [ha, e]; simp; omega
def ahAt (l : Bs) : Bs := l.take (atN l).toNat
def behAt (l : Bs) : Bs := l.drop (atN l + 1).toNat
theorem behAt_len (l : Bs) : (behAt l).length ≤ l.length := by unfold behAt; simp
theorem ahAt_len (l : Bs) : (ahAt l).length ≤ l.length := by unfold ahAt; simp; omega

/-! The first of some bytes, as the library tells it. -/
theorem idx_any (S : Bs) : ∀ l : Bs, Lib.indexAny l S = if ixS S l < l.length then (ixS S l : Int) else -1
  | [] => rfl
  | c :: t => by
    rw [Lib.indexAny, idx_any S t, ixS_cons]
    by_cases h : S.contains c = true
    · rw [if_pos h, if_pos h, if_pos (by simp)]; rfl
    · rw [if_neg h, if_neg h]
      by_cases q : ixS S t < t.length
      · rw [if_pos q, if_pos (show ixS S t + 1 < (c :: t).length by rw [List.length_cons]; omega)]
        have : ((ixS S t : Int) == -1) = false := by rw [beq_eq_false_iff_ne]; omega
        rw [this]; rfl
      · rw [if_neg q, if_neg (show ¬ ixS S t + 1 < (c :: t).length by rw [List.length_cons]; omega)]; rfl
theorem ixS_all (S l : Bs) (h : ¬ ixS S l < l.length) : upA S l = l ∧ upR S l = [] := by
  have h1 := up_len S l
  have h2 : (upR S l).length = 0 := by unfold ixS at h; omega
  have h3 : upR S l = [] := List.eq_nil_of_length_eq_zero h2
  refine ⟨?_, h3⟩
  rw [upA_take, List.take_of_length_le (by unfold ixS at h; omega)]

/-! An address. -/
structure Ur where
  sch : Bs
  usr : Bs
  pas : Bs
  hk : Int
  hn : Bs
  ha : Int
  port : Int
  path : List Bs
  opq : Bs
  hq : Bool
  qry : Bs
  hf : Bool
  frg : Bs
def Ur.zero : Ur := ⟨[], [], [], 0, [], 0, 0, [], [], false, [], false, []⟩
theorem Ur.ext {u v : Ur} (h1 : u.sch = v.sch) (h2 : u.usr = v.usr) (h3 : u.pas = v.pas) (h4 : u.hk = v.hk) (h5 : u.hn = v.hn) (h6 : u.ha = v.ha) (h7 : u.port = v.port) (h8 : u.path = v.path) (h9 : u.opq = v.opq) (h10 : u.hq = v.hq) (h11 : u.qry = v.qry) (h12 : u.hf = v.hf) (h13 : u.frg = v.frg) : u = v := by
  cases u; cases v; simp at *; simp [*]
def eqU (u v : Ur) : Bool := u.sch == v.sch && u.usr == v.usr && u.pas == v.pas && (u.hk == v.hk && u.hn == v.hn && u.ha == v.ha) && u.port == v.port && u.path == v.path && u.opq == v.opq && u.hq == v.hq && u.qry == v.qry && u.hf == v.hf && u.frg == v.frg
theorem eqU_iff (u v : Ur) : eqU u v = true ↔ u = v := by
  constructor
  · intro h
    unfold eqU at h
    simp only [Bool.and_eq_true, beq_iff_eq] at h
    obtain ⟨⟨⟨⟨⟨⟨⟨⟨⟨⟨h1, h2⟩, h3⟩, ⟨⟨h4, h5⟩, h6⟩⟩, h7⟩, h8⟩, h9⟩, h10⟩, h11⟩, h12⟩, h13⟩ := h
    exact Ur.ext h1 h2 h3 h4 h5 h6 h7 h8 h9 h10 h11 h12 h13
  · rintro rfl; simp [eqU]
def userB (u : Ur) : Bs := if u.usr ≠ [] ∨ u.pas ≠ [] then u.usr ++ (if u.pas ≠ [] then 58 :: u.pas else []) ++ [64] else []
def portB (n : Int) : Bs := if 0 ≤ n then 58 :: Lib.decDigits n.toNat else []
def tailB (u : Ur) : Bs := (if u.hq = true then 63 :: u.qry else []) ++ (if u.hf = true then 35 :: u.frg else [])
def putU (u : Ur) : Bs := u.sch ++ [58] ++ (if ownP u.sch < 0 then u.opq else [47, 47] ++ userB u ++ hostPV u.hk u.hn u.ha ++ portB u.port ++ pathPut u.path) ++ tailB u
def setTail (u : Ur) (l : Bs) : Ur := { u with hq := !(cutAh 35 l).isEmpty, qry := enc (setB 2) ((cutAh 35 l).drop 1), hf := l.contains 35, frg := enc (setB 3) (cutBe 35 l) }
def setWho (u : Ur) (l : Bs) : Ur := { u with usr := enc (setB 4) (cutAh 58 l), pas := enc (setB 4) (cutBe 58 l) }
def setAuth (u : Ur) (l : Bs) : Ur :=
  let v := if 0 ≤ atN l then setWho u (ahAt l) else u
  let h := hostGV (cutAh 58 (behAt l))
  { v with hk := h.1, hn := h.2.1.data.toList, ha := h.2.2.1, port := (portV (cutBe 58 (behAt l)) (ownP u.sch)).getD 0 }
def authOk (u : Ur) (l : Bs) : Bool := (hostGV (cutAh 58 (behAt l))).2.2.2 && (portV (cutBe 58 (behAt l)) (ownP u.sch)).isSome
def offSl (l : Bs) : Bs := l.dropWhile isSl
def setHosted (u : Ur) (l : Bs) : Ur :=
  setTail { setAuth u (upA [47, 92, 63, 35] l) with path := pathB (setB 1) (upA [63, 35] (upR [47, 92, 63, 35] l)) } (upR [63, 35] (upR [47, 92, 63, 35] l))
def baseU (s : Bs) : Ur := { Ur.zero with sch := s, port := -1 }
def opaqueU (s r : Bs) : Ur := setTail { baseU s with opq := enc (setB 5) (upA [63, 35] r) } (upR [63, 35] r)
def hostedU (s r : Bs) : Ur := setHosted (baseU s) (offSl r)
def hostedOk (s r : Bs) : Bool := authOk (baseU s) (upA [47, 92, 63, 35] (offSl r)) && (decide ((hostedU s r).path.length ≤ 12) && decide ((putU (hostedU s r)).length ≤ 600))
def readU (s r : Bs) : Ur × Bool := if ownP s < 0 then (opaqueU s r, true) else if hostedOk s r = true then (hostedU s r, true) else (Ur.zero, false)
def urlG (l : Bs) : Ur × Bool := if l.length ≤ 200 then (match schemeV (trimU l) with | none => (Ur.zero, false) | some (s, r) => readU s r) else (Ur.zero, false)
def okU (u : Ur) : Bool := (urlG (putU u)).2 && eqU (urlG (putU u)).1 u
end Go.Proofs.YtndobphgeiamhaaGreatDoor.H
/- How an address lies in memory: its cells, and what stays of them. No condition. -/
namespace Go.Proofs.YtndobphgeiamhaaGreatDoor.H
open Go.RowKit Go.Proofs.YtndobphgeiamhaaGreatDoorW.PrintWords Go.Proofs.YtndobphgeiamhaaGreatDoor.Base Go.Proofs.YtndobphgeiamhaaGreatDoor.Pure
def uCells (u : Ur) (pv : Value) : Array Value := #[.string (B u.sch), .string (B u.usr), .string (B u.pas), .int .i64 u.hk, .string (B u.hn), .int .i64 u.ha, .int .i64 u.port, pv, .string (B u.opq), .bool u.hq, .string (B u.qry), .bool u.hf, .string (B u.frg)]
def Blk (w : World) (g : Nat) (cs : Array Value) : Prop := w.heap[g]? = some (.cells cs 33 (0, 0))
theorem Blk.lt {w : World} {g : Nat} {cs : Array Value} (h : Blk w g cs) : g < w.heap.size := (Array.getElem?_eq_some_iff.1 h).1
theorem Blk.below {w w1 : World} {g : Nat} {cs : Array Value} (h : Blk w g cs) (hb : Below w.heap.size w w1) : Blk w1 g cs := blk_below h hb
theorem Blk.put {w : World} {g : Nat} {cs : Array Value} (h : Blk w g cs) (i : Nat) (v : Value) : Blk (w.setCell ⟨g, i, none⟩ v) g (cs.setIfInBounds i v) := blk_set h i v
theorem Blk.cells {w : World} {g : Nat} {c0 c1 c2 c3 c4 c5 c6 c7 c8 c9 c10 c11 c12 : Value} (h : Blk w g #[c0, c1, c2, c3, c4, c5, c6, c7, c8, c9, c10, c11, c12]) :
    (w.cell? ⟨g, 0, none⟩ = some c0 ∧ w.cell? ⟨g, 1, none⟩ = some c1 ∧ w.cell? ⟨g, 2, none⟩ = some c2 ∧ w.cell? ⟨g, 3, none⟩ = some c3 ∧ w.cell? ⟨g, 4, none⟩ = some c4 ∧ w.cell? ⟨g, 5, none⟩ = some c5 ∧ w.cell? ⟨g, 6, none⟩ = some c6 ∧ w.cell? ⟨g, 7, none⟩ = some c7 ∧ w.cell? ⟨g, 8, none⟩ = some c8 ∧ w.cell? ⟨g, 9, none⟩ = some c9 ∧ w.cell? ⟨g, 10, none⟩ = some c10 ∧ w.cell? ⟨g, 11, none⟩ = some c11 ∧ w.cell? ⟨g, 12, none⟩ = some c12) ∧
    (w.frozen? ⟨g, 0, none⟩ = false ∧ w.frozen? ⟨g, 1, none⟩ = false ∧ w.frozen? ⟨g, 2, none⟩ = false ∧ w.frozen? ⟨g, 3, none⟩ = false ∧ w.frozen? ⟨g, 4, none⟩ = false ∧ w.frozen? ⟨g, 5, none⟩ = false ∧ w.frozen? ⟨g, 6, none⟩ = false ∧ w.frozen? ⟨g, 7, none⟩ = false ∧ w.frozen? ⟨g, 8, none⟩ = false ∧ w.frozen? ⟨g, 9, none⟩ = false ∧ w.frozen? ⟨g, 10, none⟩ = false ∧ w.frozen? ⟨g, 11, none⟩ = false ∧ w.frozen? ⟨g, 12, none⟩ = false) :=
  ⟨⟨(blk_cell h 0).trans rfl, (blk_cell h 1).trans rfl, (blk_cell h 2).trans rfl, (blk_cell h 3).trans rfl, (blk_cell h 4).trans rfl, (blk_cell h 5).trans rfl, (blk_cell h 6).trans rfl, (blk_cell h 7).trans rfl, (blk_cell h 8).trans rfl, (blk_cell h 9).trans rfl, (blk_cell h 10).trans rfl, (blk_cell h 11).trans rfl, (blk_cell h 12).trans rfl⟩,
   ⟨blk_frozen h 0, blk_frozen h 1, blk_frozen h 2, blk_frozen h 3, blk_frozen h 4, blk_frozen h 5, blk_frozen h 6, blk_frozen h 7, blk_frozen h 8, blk_frozen h 9, blk_frozen h 10, blk_frozen h 11, blk_frozen h 12⟩⟩
abbrev C13 (w : World) (g : Nat) (c0 c1 c2 c3 c4 c5 c6 c7 c8 c9 c10 c11 c12 : Value) : Prop :=
  w.cell? ⟨g, 0, none⟩ = some c0 ∧ w.cell? ⟨g, 1, none⟩ = some c1 ∧ w.cell? ⟨g, 2, none⟩ = some c2 ∧ w.cell? ⟨g, 3, none⟩ = some c3 ∧ w.cell? ⟨g, 4, none⟩ = some c4 ∧ w.cell? ⟨g, 5, none⟩ = some c5 ∧ w.cell? ⟨g, 6, none⟩ = some c6 ∧ w.cell? ⟨g, 7, none⟩ = some c7 ∧ w.cell? ⟨g, 8, none⟩ = some c8 ∧ w.cell? ⟨g, 9, none⟩ = some c9 ∧ w.cell? ⟨g, 10, none⟩ = some c10 ∧ w.cell? ⟨g, 11, none⟩ = some c11 ∧ w.cell? ⟨g, 12, none⟩ = some c12
theorem C13.below {w w1 : World} {g : Nat} {c0 c1 c2 c3 c4 c5 c6 c7 c8 c9 c10 c11 c12 : Value} (h : C13 w g c0 c1 c2 c3 c4 c5 c6 c7 c8 c9 c10 c11 c12) (hb : Below w.heap.size w w1) : C13 w1 g c0 c1 c2 c3 c4 c5 c6 c7 c8 c9 c10 c11 c12 := by
  obtain ⟨h0, h1, h2, h3, h4, h5, h6, h7, h8, h9, h10, h11, h12⟩ := h
  exact ⟨pw_cell_below hb h0, pw_cell_below hb h1, pw_cell_below hb h2, pw_cell_below hb h3, pw_cell_below hb h4, pw_cell_below hb h5, pw_cell_below hb h6, pw_cell_below hb h7, pw_cell_below hb h8, pw_cell_below hb h9, pw_cell_below hb h10, pw_cell_below hb h11, pw_cell_below hb h12⟩
abbrev Held (w0 : World) (g : Nat) (c0 c1 c2 c3 c4 c5 c6 c7 c8 c9 c10 c11 c12 : Value) (w : World) : Prop := C13 w g c0 c1 c2 c3 c4 c5 c6 c7 c8 c9 c10 c11 c12 ∧ Below w0.heap.size w0 w
theorem Held.go {w0 w w1 : World} {g : Nat} {c0 c1 c2 c3 c4 c5 c6 c7 c8 c9 c10 c11 c12 : Value} (h : Held w0 g c0 c1 c2 c3 c4 c5 c6 c7 c8 c9 c10 c11 c12 w) (hb : Below w.heap.size w w1) : Held w0 g c0 c1 c2 c3 c4 c5 c6 c7 c8 c9 c10 c11 c12 w1 := ⟨h.1.below hb, below_then h.2 h.2.size hb⟩
theorem Held.drew {w0 w : World} {g : Nat} {c0 c1 c2 c3 c4 c5 c6 c7 c8 c9 c10 c11 c12 : Value} (h : Held w0 g c0 c1 c2 c3 c4 c5 c6 c7 c8 c9 c10 c11 c12 w) : Held w0 g c0 c1 c2 c3 c4 c5 c6 c7 c8 c9 c10 c11 c12 w.drew := h.go (below_drew (Below.refl _ _))
def PathAt (w : World) (pv : Value) (ps : List Bs) : Prop := ∃ A c, pv = .slice A ps.length c ∧ ps.length ≤ c ∧ Kd.C Kd.string w A (ps.map B).length (ps.map B)
theorem PathAt.below {w w1 : World} {pv : Value} {ps : List Bs} (h : PathAt w pv ps) (hb : Below w.heap.size w w1) : PathAt w1 pv ps := by
  obtain ⟨A, c, h1, h2, h3⟩ := h
  exact ⟨A, c, h1, h2, Kd.C_below h3 hb⟩
theorem grown_b {w w1 : World} {row : Option Nat} (h : Below w.heap.size w w1) : w.grownBy w1 row := grown_of_below h row
theorem grown_put {w w1 : World} {g : Nat} (h : w.grownBy w1 (some g)) (i : Nat) (v : Value) : w.grownBy (w1.setCell ⟨g, i, none⟩ v) (some g) :=
  h.trans ⟨rfl, rfl, rfl, ((Below.refl 0 w1).setCell (p := ⟨g, i, none⟩) (Nat.zero_le _) v).size, fun k hk hn => Below.heap_setCell w1 _ v k fun q => hn (by rw [q])⟩
theorem below_by {w w1 w2 : World} {g : Nat} (h : Below w.heap.size w w1) (hg : w.heap.size ≤ g) (k : w1.grownBy w2 (some g)) : Below w.heap.size w w2 := h.grown k h.size (fun j hj => by obtain rfl := Option.some.inj hj; exact hg)
theorem Blk.put13 {w : World} {g : Nat} {c0 c1 c2 c3 c4 c5 c6 c7 c8 c9 c10 c11 c12 v0 v1 v2 v3 v4 v5 v6 v7 v8 v9 v10 v11 v12 : Value} (h : Blk w g #[c0, c1, c2, c3, c4, c5, c6, c7, c8, c9, c10, c11, c12]) : Blk (((((((((((((w.setCell ⟨g, 0, none⟩ v0).setCell ⟨g, 1, none⟩ v1).setCell ⟨g, 2, none⟩ v2).setCell ⟨g, 3, none⟩ v3).setCell ⟨g, 4, none⟩ v4).setCell ⟨g, 5, none⟩ v5).setCell ⟨g, 6, none⟩ v6).setCell ⟨g, 7, none⟩ v7).setCell ⟨g, 8, none⟩ v8).setCell ⟨g, 9, none⟩ v9).setCell ⟨g, 10, none⟩ v10).setCell ⟨g, 11, none⟩ v11).setCell ⟨g, 12, none⟩ v12) g #[v0, v1, v2, v3, v4, v5, v6, v7, v8, v9, v10, v11, v12] := by
  have h0 : Blk _ g #[v0, c1, c2, c3, c4, c5, c6, c7, c8, c9, c10, c11, c12] := h.put 0 v0
  have h1 : Blk _ g #[v0, v1, c2, c3, c4, c5, c6, c7, c8, c9, c10, c11, c12] := h0.put 1 v1
  have h2 : Blk _ g #[v0, v1, v2, c3, c4, c5, c6, c7, c8, c9, c10, c11, c12] := h1.put 2 v2
  have h3 : Blk _ g #[v0, v1, v2, v3, c4, c5, c6, c7, c8, c9, c10, c11, c12] := h2.put 3 v3
  have h4 : Blk _ g #[v0, v1, v2, v3, v4, c5, c6, c7, c8, c9, c10, c11, c12] := h3.put 4 v4
  have h5 : Blk _ g #[v0, v1, v2, v3, v4, v5, c6, c7, c8, c9, c10, c11, c12] := h4.put 5 v5
  have h6 : Blk _ g #[v0, v1, v2, v3, v4, v5, v6, c7, c8, c9, c10, c11, c12] := h5.put 6 v6
  have h7 : Blk _ g #[v0, v1, v2, v3, v4, v5, v6, v7, c8, c9, c10, c11, c12] := h6.put 7 v7
  have h8 : Blk _ g #[v0, v1, v2, v3, v4, v5, v6, v7, v8, c9, c10, c11, c12] := h7.put 8 v8
  have h9 : Blk _ g #[v0, v1, v2, v3, v4, v5, v6, v7, v8, v9, c10, c11, c12] := h8.put 9 v9
  have h10 : Blk _ g #[v0, v1, v2, v3, v4, v5, v6, v7, v8, v9, v10, c11, c12] := h9.put 10 v10
  have h11 : Blk _ g #[v0, v1, v2, v3, v4, v5, v6, v7, v8, v9, v10, v11, c12] := h10.put 11 v11
  have h12 : Blk _ g #[v0, v1, v2, v3, v4, v5, v6, v7, v8, v9, v10, v11, v12] := h11.put 12 v12
  exact h12
theorem below13 {w0 w : World} {g : Nat} {v0 v1 v2 v3 v4 v5 v6 v7 v8 v9 v10 v11 v12 : Value} (h : Below w0.heap.size w0 w) (hg : w0.heap.size ≤ g) : Below w0.heap.size w0 (((((((((((((w.setCell ⟨g, 0, none⟩ v0).setCell ⟨g, 1, none⟩ v1).setCell ⟨g, 2, none⟩ v2).setCell ⟨g, 3, none⟩ v3).setCell ⟨g, 4, none⟩ v4).setCell ⟨g, 5, none⟩ v5).setCell ⟨g, 6, none⟩ v6).setCell ⟨g, 7, none⟩ v7).setCell ⟨g, 8, none⟩ v8).setCell ⟨g, 9, none⟩ v9).setCell ⟨g, 10, none⟩ v10).setCell ⟨g, 11, none⟩ v11).setCell ⟨g, 12, none⟩ v12) := (((((((((((((h.setCell hg v0).setCell hg v1).setCell hg v2).setCell hg v3).setCell hg v4).setCell hg v5).setCell hg v6).setCell hg v7).setCell hg v8).setCell hg v9).setCell hg v10).setCell hg v11).setCell hg v12)
theorem grown13 {w0 w : World} {g : Nat} {v0 v1 v2 v3 v4 v5 v6 v7 v8 v9 v10 v11 v12 : Value} (h : w0.grownBy w (some g)) : w0.grownBy (((((((((((((w.setCell ⟨g, 0, none⟩ v0).setCell ⟨g, 1, none⟩ v1).setCell ⟨g, 2, none⟩ v2).setCell ⟨g, 3, none⟩ v3).setCell ⟨g, 4, none⟩ v4).setCell ⟨g, 5, none⟩ v5).setCell ⟨g, 6, none⟩ v6).setCell ⟨g, 7, none⟩ v7).setCell ⟨g, 8, none⟩ v8).setCell ⟨g, 9, none⟩ v9).setCell ⟨g, 10, none⟩ v10).setCell ⟨g, 11, none⟩ v11).setCell ⟨g, 12, none⟩ v12) (some g) := (grown_put (grown_put (grown_put (grown_put (grown_put (grown_put (grown_put (grown_put (grown_put (grown_put (grown_put (grown_put (grown_put h 0 v0) 1 v1) 2 v2) 3 v3) 4 v4) 5 v5) 6 v6) 7 v7) 8 v8) 9 v9) 10 v10) 11 v11) 12 v12)
theorem Held.far {w0 w : World} {g : Nat} {c0 c1 c2 c3 c4 c5 c6 c7 c8 c9 c10 c11 c12 : Value} (h : Held w0 g c0 c1 c2 c3 c4 c5 c6 c7 c8 c9 c10 c11 c12 w) {p : Addr} (hne : p.block ≠ g) (hge : w0.heap.size ≤ p.block) (v : Value) : Held w0 g c0 c1 c2 c3 c4 c5 c6 c7 c8 c9 c10 c11 c12 (w.setCell p v) := by
  obtain ⟨⟨h0, h1, h2, h3, h4, h5, h6, h7, h8, h9, h10, h11, h12⟩, hb⟩ := h
  have f : ∀ (i : Nat) (u : Value), w.cell? ⟨g, i, none⟩ = some u → (w.setCell p v).cell? ⟨g, i, none⟩ = some u := fun i u hu => (World.cell?_setCell_far w p ⟨g, i, none⟩ v hne).trans hu
  exact ⟨⟨f 0 _ h0, f 1 _ h1, f 2 _ h2, f 3 _ h3, f 4 _ h4, f 5 _ h5, f 6 _ h6, f 7 _ h7, f 8 _ h8, f 9 _ h9, f 10 _ h10, f 11 _ h11, f 12 _ h12⟩, hb.setCell hge v⟩
theorem Held.far13 {w0 w : World} {g k : Nat} {c0 c1 c2 c3 c4 c5 c6 c7 c8 c9 c10 c11 c12 v0 v1 v2 v3 v4 v5 v6 v7 v8 v9 v10 v11 v12 : Value} (h : Held w0 g c0 c1 c2 c3 c4 c5 c6 c7 c8 c9 c10 c11 c12 w) (hne : k ≠ g) (hge : w0.heap.size ≤ k) : Held w0 g c0 c1 c2 c3 c4 c5 c6 c7 c8 c9 c10 c11 c12 (((((((((((((w.setCell ⟨k, 0, none⟩ v0).setCell ⟨k, 1, none⟩ v1).setCell ⟨k, 2, none⟩ v2).setCell ⟨k, 3, none⟩ v3).setCell ⟨k, 4, none⟩ v4).setCell ⟨k, 5, none⟩ v5).setCell ⟨k, 6, none⟩ v6).setCell ⟨k, 7, none⟩ v7).setCell ⟨k, 8, none⟩ v8).setCell ⟨k, 9, none⟩ v9).setCell ⟨k, 10, none⟩ v10).setCell ⟨k, 11, none⟩ v11).setCell ⟨k, 12, none⟩ v12) :=
  ((((((((((((h.far (p := ⟨k, 0, none⟩) hne hge v0).far (p := ⟨k, 1, none⟩) hne hge v1).far (p := ⟨k, 2, none⟩) hne hge v2).far (p := ⟨k, 3, none⟩) hne hge v3).far (p := ⟨k, 4, none⟩) hne hge v4).far (p := ⟨k, 5, none⟩) hne hge v5).far (p := ⟨k, 6, none⟩) hne hge v6).far (p := ⟨k, 7, none⟩) hne hge v7).far (p := ⟨k, 8, none⟩) hne hge v8).far (p := ⟨k, 9, none⟩) hne hge v9).far (p := ⟨k, 10, none⟩) hne hge v10).far (p := ⟨k, 11, none⟩) hne hge v11).far (p := ⟨k, 12, none⟩) hne hge v12
theorem Blk.grown {w w1 : World} {g k : Nat} {cs : Array Value} (h : Blk w g cs) (hg : w.grownBy w1 (some k)) (hne : g ≠ k) : Blk w1 g cs := blk_grown h hg (fun e => hne (Option.some.inj e))
theorem Blk.far {w : World} {g : Nat} {cs : Array Value} (h : Blk w g cs) {p : Addr} (hne : g ≠ p.block) (v : Value) : Blk (w.setCell p v) g cs := blk_far h hne v
abbrev Held3 (w0 : World) (g : Nat) (c0 c1 c2 : Value) (w : World) : Prop := (w.cell? ⟨g, 0, none⟩ = some c0 ∧ w.cell? ⟨g, 1, none⟩ = some c1 ∧ w.cell? ⟨g, 2, none⟩ = some c2) ∧ Below w0.heap.size w0 w
theorem Held3.go {w0 w w1 : World} {g : Nat} {c0 c1 c2 : Value} (h : Held3 w0 g c0 c1 c2 w) (hb : Below w.heap.size w w1) : Held3 w0 g c0 c1 c2 w1 := ⟨⟨pw_cell_below hb h.1.1, pw_cell_below hb h.1.2.1, pw_cell_below hb h.1.2.2⟩, below_then h.2 h.2.size hb⟩
theorem Held3.drew {w0 w : World} {g : Nat} {c0 c1 c2 : Value} (h : Held3 w0 g c0 c1 c2 w) : Held3 w0 g c0 c1 c2 w.drew := h.go (below_drew (Below.refl _ _))
theorem Held3.far {w0 w : World} {g k i : Nat} {c0 c1 c2 : Value} (h : Held3 w0 g c0 c1 c2 w) (hne : k ≠ g) (hge : w0.heap.size ≤ k) (v : Value) : Held3 w0 g c0 c1 c2 (w.setCell ⟨k, i, none⟩ v) :=
  ⟨⟨(World.cell?_setCell_far w ⟨k, i, none⟩ ⟨g, 0, none⟩ v hne).trans h.1.1, (World.cell?_setCell_far w ⟨k, i, none⟩ ⟨g, 1, none⟩ v hne).trans h.1.2.1, (World.cell?_setCell_far w ⟨k, i, none⟩ ⟨g, 2, none⟩ v hne).trans h.1.2.2⟩, h.2.setCell hge v⟩
theorem Held3.new (w : World) (t : TypeId) (c0 c1 c2 : Value) : Held3 w w.heap.size c0 c1 c2 (w.alloc (.cells #[c0, c1, c2] t)) :=
  ⟨⟨(blk_cell (blk_new w (.cells #[c0, c1, c2] t (0, 0))) 0).trans rfl, (blk_cell (blk_new w (.cells #[c0, c1, c2] t (0, 0))) 1).trans rfl, (blk_cell (blk_new w (.cells #[c0, c1, c2] t (0, 0))) 2).trans rfl⟩, (Below.refl _ w).alloc (Nat.le_refl _) _⟩
theorem q_keep {w w1 : World} {base : Nat} {e : TypeId} {size n : Nat} {v : Value} {xs : List Value} (h : QRow w base e size v n xs) (hk : ∀ k, base ≤ k → k < w.heap.size → w1.heap[k]? = w.heap[k]?) : QRow w1 base e size v n xs := by
  have lt : ∀ {k : Nat} {o : Obj}, w.heap[k]? = some o → k < w.heap.size := fun h => (Array.getElem?_eq_some_iff.1 h).1
  obtain ⟨h1, h2⟩ := h
  refine ⟨h1, ?_⟩
  rcases h2 with ⟨h0, A, hA, hc⟩ | ⟨g, off, cap, cur, hv, hg, hh, r⟩
  · refine .inl ⟨h0, A, hA, fun a ha => ?_⟩
    obtain ⟨b1, cur, b2⟩ := hc a ha
    exact ⟨b1, cur, (hk _ b1 (lt b2)).trans b2⟩
  · exact .inr ⟨g, off, cap, cur, hv, hg, (hk _ hg (lt hh)).trans hh, r⟩
theorem q_below {w w1 : World} {base : Nat} {e : TypeId} {size n : Nat} {v : Value} {xs : List Value} (h : QRow w base e size v n xs) (hb : Below w.heap.size w w1) : QRow w1 base e size v n xs := q_keep h fun k _ hk => hb.block k hk
theorem q_grown {w w1 : World} {base g : Nat} {e : TypeId} {size n : Nat} {v : Value} {xs : List Value} (h : QRow w base e size v n xs) (hg : w.grownBy w1 (some g)) (hlt : g < base) : QRow w1 base e size v n xs := q_keep h fun k h1 h2 => hg.block k h2 (fun e => by have := Option.some.inj e; omega)
theorem end0 {P : Program} {fn : Func} {R : Ending → World → Prop} {a : Act} {w : World} (hr : fn.results = #[]) (hd : a.defers = []) (hR : R (.returned (.tuple #[])) w) : bodyPost P fn R .normal a w :=
  bodyPost_end (results_none hr _ _ _) hd hR
end Go.Proofs.YtndobphgeiamhaaGreatDoor.H
/- laws.eqStringS, laws.guTexts, slices.Equal at texts: two rows of texts held against each other. No condition. -/
set_option linter.unusedVariables false
namespace Go.Proofs.YtndobphgeiamhaaGreatDoor.H
open Go.RowKit Go.Proofs.YtndobphgeiamhaaGreatDoorW.PrintWords Go.Proofs.YtndobphgeiamhaaGreatDoor.Base Go.Proofs.YtndobphgeiamhaaGreatDoor.Pure
theorem kd_at {w : World} {A : Option Addr} {ps : List Bs} (h : Kd.C Kd.string w A (ps.map B).length (ps.map B)) (k : Nat) (hk : k < ps.length) : ∃ ad, A = some ad ∧ w.cell? (ad.add k) = some (.string (B ps[k])) := by
 obtain ⟨ad, e0, hcell⟩ := Kd.at_string h (k : Int) (by omega) (by simp; omega)
 have hrd : rdOf ByteArray.empty (ps.map B) (k : Int) = B ps[k] := by unfold rdOf; rw [Int.toNat_natCast, List.getD_eq_getElem?_getD, List.getElem?_map, List.getElem?_eq_getElem hk]; rfl
 rw [hrd, Int.toNat_natCast] at hcell
 exact ⟨ad, e0, hcell⟩
theorem take_eq {ps qs : List Bs} (k : Nat) (h1 : k < ps.length) (h2 : k < qs.length) (h : ps.take k = qs.take k) (he : ps[k] = qs[k]) : ps.take (k + 1) = qs.take (k + 1) := by
 rw [List.take_succ_eq_append_getElem h1, List.take_succ_eq_append_getElem h2, h, he]
theorem take_ne {ps qs : List Bs} (k : Nat) (h1 : k < ps.length) (h2 : k < qs.length) (he : ps[k] ≠ qs[k]) : (ps == qs) = false := by
 rw [beq_eq_false_iff_ne]; intro e; subst e; exact he rfl
set_option maxHeartbeats 1000000 in
set_option maxRecDepth 100000 in
theorem eqStringS_walk (pv qv : Value) (ps : List Bs) (w : World) (hP : PathAt w pv ps) (hQ : PathAt w qv ps) (hm : ps.length ≤ 1048576) :
  Calls Tryz.prog 37 #[pv, qv] w fun e w' => e = .returned (.bool true) ∧ Below w.heap.size w w' := by
 obtain ⟨A, c, rfl, hc, hk⟩ := hP
 obtain ⟨A', c', rfl, hc', hk'⟩ := hQ
 have HP := Lib.hid hk
 have HQ := Lib.hid hk'
 clear hk hk'
 go_enter Tryz.func37, Tryz.ntmps37
 go_wp2
 go_loopw [5] (fun i wr => ∃ k : Nat, k ≤ ps.length ∧ i = .int .i64 k ∧ Below w.heap.size w wr) (fun i _ => ps.length - (intOf i).toNat)
 case atStart => exact ⟨0, by omega, rfl, Below.refl _ _⟩
 case round =>
  obtain ⟨k, hk, rfl, hb⟩ := hrel
  by_cases hlt : k < ps.length
  ·obtain ⟨ad, e0, hcell⟩ := kd_at (Kd.C_below HP.out hb) k hlt
   obtain ⟨ad', e0', hcell'⟩ := kd_at (Kd.C_below HQ.out hb) k hlt
   subst e0 e0'
   have i1 : ((k : Int) < (ps.length : Int)) := by omega
   have it : ((k : Int)).toNat = k := rfl
   generalize ps[k] = x at *
   go_wp2_with fail
   go_quiet (fail)
   go_wp2
   go_roundw
   case rel => exact ⟨k + 1, by omega, by go_num, below_drewN hb _⟩
   case measure => simp only [intOf]; omega
  ·have hn : decide ((k : Int) < (ps.length : Int)) = false := decide_eq_false (by omega)
   go_wp2
   go_ret
   exact ⟨rfl, hb⟩
set_option maxHeartbeats 1000000 in
set_option maxRecDepth 100000 in
theorem slEqual_walk (pv qv : Value) (ps qs : List Bs) (w : World) (hP : PathAt w pv ps) (hQ : PathAt w qv qs) (hm : ps.length ≤ 1048576) :
  Calls Tryz.prog 78 #[pv, qv] w fun e w' => e = .returned (.bool (ps == qs)) ∧ Below w.heap.size w w' := by
 obtain ⟨A, c, rfl, hc, hk⟩ := hP
 obtain ⟨A', c', rfl, hc', hk'⟩ := hQ
 by_cases hl : ps.length = qs.length
 ·have HP := Lib.hid hk
  have HQ := Lib.hid hk'
  have HL := Lib.hid hl
  rw [← hl]
  clear hk hk' hl
  go_enter Tryz.func78, Tryz.ntmps78
  go_wp2
  go_loopw [13] (fun i wr => ∃ k : Nat, k ≤ ps.length ∧ i = .int .i64 k ∧ ps.take k = qs.take k ∧ Below w.heap.size w wr) (fun i _ => ps.length - (intOf i).toNat)
  case atStart => exact ⟨0, by omega, rfl, rfl, Below.refl _ _⟩
  case round =>
   obtain ⟨k, hk, rfl, ht, hb⟩ := hrel
   by_cases hlt : k < ps.length
   ·have hlt2 : k < qs.length := by rw [← HL.out]; exact hlt
    obtain ⟨ad, e0, hcell⟩ := kd_at (Kd.C_below HP.out hb) k hlt
    obtain ⟨ad', e0', hcell'⟩ := kd_at (Kd.C_below HQ.out hb) k hlt2
    subst e0 e0'
    have i1 : ((k : Int) < (ps.length : Int)) := by omega
    have it : ((k : Int)).toNat = k := rfl
    have HT := Lib.hid fun h => take_eq k hlt hlt2 ht h
    have HN := Lib.hid fun h => take_ne k hlt hlt2 h
    clear ht
    by_cases he : ps[k] = qs[k]
    ·have HE := Lib.hid (HT.out he)
     have hne : (ps[k] != qs[k]) = false := by simp [he]
     have hee : (ps[k] == qs[k]) = true := by simp [he]
     clear he HT HN
     generalize ps[k] = x at *
     generalize qs[k] = y at *
     go_wp2_with fail
     go_quiet (fail)
     go_wp2
     go_roundw
     case rel => exact ⟨k + 1, by omega, by go_num, HE.out, below_drewN hb _⟩
     case measure => simp only [intOf]; omega
    ·have HE := Lib.hid (HN.out he)
     have hne : (ps[k] != qs[k]) = true := by simp [he]
     have hee : (ps[k] == qs[k]) = false := by simp [he]
     clear he HT HN
     generalize ps[k] = x at *
     generalize qs[k] = y at *
     go_wp2_with fail
     go_quiet (fail)
     go_wp2
     go_ret
     exact ⟨by rw [HE.out]; rfl, below_drewN hb _⟩
   ·have HE : Hid (ps = qs) := Lib.hid (by rw [List.take_of_length_le (by omega), List.take_of_length_le (by rw [← HL.out]; omega)] at ht; exact ht)
    have hn : decide ((k : Int) < (ps.length : Int)) = false := decide_eq_false (by omega)
    clear ht
    go_wp2
    go_ret
    exact ⟨by rw [HE.out]; simp, hb⟩
 ·have HE : Hid ((ps == qs) = false) := Lib.hid (by rw [beq_eq_false_iff_ne]; intro e; exact hl (by rw [e]))
  have hn : ((ps.length : Int) != (qs.length : Int)) = true := by simp; omega
  have hn2 : ((ps.length : Int) == (qs.length : Int)) = false := by simp; omega
  generalize (ps == qs) = b at HE ⊢
  generalize ps.length = m at *
  generalize qs.length = n at *
  clear hl hk hk'
  go_enter Tryz.func78, Tryz.ntmps78
  go_wp2
  go_ret
  exact ⟨by rw [HE.out]; rfl, Below.refl _ _⟩
end Go.Proofs.YtndobphgeiamhaaGreatDoor.H
/- Of no program: an address that was read, written again, is read as itself; plain lists of bytes. Conditions: each theorem's own. -/
namespace Go.Proofs.YtndobphgeiamhaaGreatDoor.H
open Go.RowKit Go.Proofs.YtndobphgeiamhaaGreatDoorW.PrintWords Go.Proofs.YtndobphgeiamhaaGreatDoor.Base Go.Proofs.YtndobphgeiamhaaGreatDoor.Pure

/-! What is left of a text that was written as figures. -/
theorem encC_in (S : Bs) (d c : UInt8) (h : c ∈ encC S d) : c ∈ plainS ∨ (c = d ∧ needs S d = false) := by
 unfold encC at h
 split at h
 ·have hd := d.toNat_lt
  unfold pct at h
  simp only [List.mem_cons, List.not_mem_nil, or_false] at h
  rcases h with rfl | rfl | rfl
  ·exact .inl (by decide)
  ·exact .inl (fig_plain _ (by omega))
  ·exact .inl (fig_plain _ (by omega))
 ·rename_i q
  exact .inr ⟨by simpa using h, by simpa using q⟩
theorem enc_in (S l : Bs) (c : UInt8) (h : c ∈ enc S l) : c ∈ plainS ∨ (c ∈ l ∧ needs S c = false) := by
 obtain ⟨d, hd, hc⟩ := List.mem_flatMap.1 h
 rcases encC_in S d c hc with q | ⟨rfl, q⟩
 ·exact .inl q
 ·exact .inr ⟨hd, q⟩
theorem enc_no (S l : Bs) (x : UInt8) (hx : S.contains x = true) (hp : x ∉ plainS) : ∀ c ∈ enc S l, c ≠ x := fun c hc e => by
 subst e
 rcases enc_in S l c hc with q | ⟨_, q⟩
 ·exact hp q
 ·unfold needs at q; rw [hx, Bool.or_true] at q; cases q
theorem enc_keeps (S l : Bs) (x : UInt8) (hp : x ∉ plainS) (h : ∀ c ∈ l, c ≠ x) : ∀ c ∈ enc S l, c ≠ x := fun c hc e => by
 subst e
 rcases enc_in S l c hc with q | ⟨q, _⟩
 ·exact hp q
 ·exact h c q rfl
def Seen (l : Bs) : Prop := ∀ c ∈ l, 32 < c.toNat
theorem Seen.cons {c : UInt8} {b : Bs} (hc : 32 < c.toNat) (hb : Seen b) : Seen (c :: b) := fun d hd => by
 rcases List.mem_cons.1 hd with rfl | q
 ·exact hc
 ·exact hb d q
theorem Seen.nil : Seen [] := fun c hc => by cases hc
/-! Up to the first of some bytes, of what is put together. -/
theorem upA_not (S l : Bs) : ∀ c ∈ upA S l, S.contains c = false := fun c hc => by
 unfold upA at hc
 induction l with
 | nil => cases hc
 | cons x t ih =>
  rw [List.takeWhile_cons] at hc
  cases h : S.contains x with
  | true => rw [h] at hc; cases hc
  | false =>
   rw [h] at hc
   rcases List.mem_cons.1 hc with rfl | q
   ·exact h
   ·exact ih q
/-! Query and fragment. -/
structure TailOk (u : Ur) : Prop where
 q0 : u.hq = false → u.qry = []
 f0 : u.hf = false → u.frg = []
 q : enc (setB 2) u.qry = u.qry
 f : enc (setB 3) u.frg = u.frg
theorem setTail_ok (u : Ur) (l : Bs) : TailOk (setTail u l) := by
 refine ⟨fun h => ?_, fun h => ?_, enc_twice 2 _, enc_twice 3 _⟩
 ·have h' : (!(cutAh 35 l).isEmpty) = false := h
  have : cutAh 35 l = [] := List.isEmpty_iff.1 (by simpa using h')
  show enc (setB 2) ((cutAh 35 l).drop 1) = []
  rw [this]; rfl
 ·have h' : l.contains 35 = false := h
  show enc (setB 3) (cutBe 35 l) = []
  rw [cutBe_plain 35 l fun x hx e => by
   subst e
   rw [List.contains_eq_mem, decide_eq_false_iff_not] at h'
   exact h' hx]
  rfl
theorem tail_back (u v : Ur) (h : TailOk u) : setTail v (tailB u) = { v with hq := u.hq, qry := u.qry, hf := u.hf, frg := u.frg } := by
 have hn : ∀ c ∈ (if u.hq = true then 63 :: u.qry else []), c ≠ 35 := fun c hc => by
  split at hc
  ·rcases List.mem_cons.1 hc with rfl | q
   ·decide
   ·rw [← h.q] at q
    exact enc_no (setB 2) _ 35 (by decide) (by decide) c q
  ·cases hc
 have e1 : cutAh 35 (tailB u) = if u.hq = true then 63 :: u.qry else [] := by
  unfold tailB
  cases hf : u.hf with
  | true => rw [if_pos rfl]; exact cutAh_cut 35 _ _ hn
  | false => rw [if_neg (show ¬ false = true by simp), List.append_nil]; exact cutAh_plain 35 _ hn
 have e2 : cutBe 35 (tailB u) = u.frg := by
  unfold tailB
  cases hf : u.hf with
  | true => rw [if_pos rfl]; exact cutBe_cut 35 _ _ hn
  | false => rw [if_neg (show ¬ false = true by simp), List.append_nil, h.f0 hf]; exact cutBe_plain 35 _ hn
 have e3 : (tailB u).contains 35 = u.hf := by
  unfold tailB
  cases hf : u.hf with
  | true => rw [if_pos rfl, List.contains_eq_mem]; exact decide_eq_true (by simp)
  | false =>
   rw [if_neg (show ¬ false = true by simp), List.append_nil, List.contains_eq_mem]
   exact decide_eq_false fun q => hn _ q rfl
 unfold setTail
 rw [e1, e2, e3]
 cases hq : u.hq with
 | true => rw [if_pos rfl]; simp [h.q, h.f]
 | false => rw [if_neg (show ¬ false = true by simp), h.q0 hq]; simp [h.f]; rfl
theorem cut_total (c : UInt8) : ∀ l : Bs, (cutAh c l).length + (cutBe c l).length + (if l.contains c = true then 1 else 0) = l.length
 | [] => rfl
 | x :: t => by
  have ih := cut_total c t
  unfold cutAh cutBe
  by_cases e : x = c
  ·subst e
   rw [if_pos rfl, if_pos rfl, if_pos (by simp), List.length_nil, List.length_cons]; omega
  ·rw [if_neg e, if_neg e]
   have : (x :: t).contains c = t.contains c := by
    rw [List.contains_cons]
    have : (c == x) = false := by rw [beq_eq_false_iff_ne]; exact fun q => e q.symm
    rw [this, Bool.false_or]
   rw [this, List.length_cons, List.length_cons]; omega
theorem setTail_size (u : Ur) (l : Bs) : (tailB (setTail u l)).length ≤ 3 * l.length := by
 have h1 := cut_total 35 l
 have h2 := (enc_len (setB 2) ((cutAh 35 l).drop 1)).2
 have h3 := (enc_len (setB 3) (cutBe 35 l)).2
 unfold tailB setTail
 show ((if (!(cutAh 35 l).isEmpty) = true then 63 :: enc (setB 2) ((cutAh 35 l).drop 1) else []) ++ (if l.contains 35 = true then 35 :: enc (setB 3) (cutBe 35 l) else [])).length ≤ _
 rw [List.length_append]
 have e1 : (if (!(cutAh 35 l).isEmpty) = true then 63 :: enc (setB 2) ((cutAh 35 l).drop 1) else []).length ≤ 3 * (cutAh 35 l).length := by
  cases hc : cutAh 35 l with
  | nil => simp
  | cons x t => rw [hc] at h2; simp at h2 ⊢; omega
 have e2 : (if l.contains 35 = true then 35 :: enc (setB 3) (cutBe 35 l) else []).length ≤ 3 * (cutBe 35 l).length + 3 * (if l.contains 35 = true then 1 else 0) := by
  split
  ·simp; omega
  ·simp
 omega
end Go.Proofs.YtndobphgeiamhaaGreatDoor.H
/- Of no program: an address that was read, written again, is read as itself; plain lists of bytes. Conditions: each theorem's own. -/
namespace Go.Proofs.YtndobphgeiamhaaGreatDoor.H
open Go.RowKit Go.Proofs.YtndobphgeiamhaaGreatDoorW.PrintWords Go.Proofs.YtndobphgeiamhaaGreatDoor.Base Go.Proofs.YtndobphgeiamhaaGreatDoor.Pure

/-! A number in decimals, read as a port. -/
theorem dec_dg : ∀ n : Nat, ∀ c ∈ Lib.decDigits n, 48 ≤ c.toNat ∧ c.toNat ≤ 57 := fun n => by
 induction n using Nat.strongRecOn with
 | ind n ih =>
  have hx : ∀ m : Nat, m < 10 → (UInt8.ofNat (48 + m)).toNat = 48 + m := fun m hm => by simp; omega
  intro c hc
  by_cases h : n < 10
  ·rw [dec_small h, List.mem_singleton] at hc
   rw [hc, hx n h]; omega
  ·rw [dec_big h] at hc
   rcases List.mem_append.1 hc with q | q
   ·exact ih (n / 10) (by omega) c q
   ·rw [List.mem_singleton] at q
    rw [q, hx _ (by omega)]; omega
theorem portV_nil (own : Int) : portV [] own = some (-1) := rfl
theorem portV_rng (l : Bs) (own n : Int) (h : portV l own = some n) : n = -1 ∨ (0 ≤ n ∧ n ≤ 65535 ∧ n ≠ own) := by
 unfold portV at h
 cases hd : dig 10 0 l with
 | none => rw [hd] at h; cases h
 | some m =>
  rw [hd] at h
  have hm := dig_rng 10 (by omega) (by omega) l 0 m (by omega) (by omega) hd
  replace h : (if 65535 < m then none else if l = [] ∨ m = own then some (-1) else some m) = some n := h
  split at h
  ·cases h
  ·split at h
   ·exact .inl (Option.some.inj h).symm
   ·rename_i h1 h2
    obtain rfl := Option.some.inj h
    exact .inr ⟨hm.1, by omega, fun q => h2 (.inr q)⟩
theorem dig_len : ∀ (l : Bs) (m n : Int), 0 ≤ m → dig 10 m l = some n → ∀ k : Nat, m < 10 ^ k → n < 10 ^ (k + l.length)
 | [], m, n, h0, h, k, hk => by rw [dig] at h; obtain rfl := Option.some.inj h; simpa using hk
 | c :: t, m, n, h0, h, k, hk => by
  rw [dig] at h
  split at h
  ·cases h
  ·rename_i q
   have := dig_len t (m * 10 + hexI c) n (by omega) h (k + 1) (by rw [Int.pow_succ]; omega)
   rw [List.length_cons, show k + (t.length + 1) = k + 1 + t.length by omega]; exact this
theorem dec_le : ∀ (k n : Nat), n < 10 ^ k → 0 < k → (Lib.decDigits n).length ≤ k
 | 0, _, _, h => absurd h (Nat.lt_irrefl 0)
 | 1, n, h, _ => by rw [dec_small (by omega)]; simp
 | k + 2, n, h, _ => by
  by_cases q : n < 10
  ·rw [dec_small q]; simp
  ·rw [dec_big q, List.length_append]
   have := dec_le (k + 1) (n / 10) (by rw [Nat.pow_succ] at h; omega) (by omega)
   simp; omega
theorem portB_size (l : Bs) (own n : Int) (h : portV l own = some n) : (portB n).length ≤ l.length + 1 := by
 unfold portB
 split
 ·rename_i h0
  unfold portV at h
  cases hd : dig 10 0 l with
  | none => rw [hd] at h; cases h
  | some m =>
   rw [hd] at h
   replace h : (if 65535 < m then none else if l = [] ∨ m = own then some (-1) else some m) = some n := h
   split at h
   ·cases h
   ·split at h
    ·have := Option.some.inj h; omega
    ·rename_i h1 h2
     obtain rfl := Option.some.inj h
     have hl : l ≠ [] := fun q => h2 (.inl q)
     have hp := dig_len l 0 m (by omega) hd 0 (by simp)
     have := dec_le l.length m.toNat (by
      have : ((m.toNat : Nat) : Int) < ((10 ^ l.length : Nat) : Int) := by
       rw [Nat.zero_add] at hp
       have e : ((10 ^ l.length : Nat) : Int) = 10 ^ l.length := by simp
       rw [e]; omega
      exact Int.ofNat_lt.1 this) (List.length_pos_iff.2 hl)
     simp; omega
 ·simp

/-! A host, read and written. -/
def hostC (c : UInt8) : Prop := 45 ≤ c.toNat ∧ c.toNat ≤ 122 ∧ c.toNat ≠ 47 ∧ c.toNat ≠ 92 ∧ c.toNat ≠ 63 ∧ c.toNat ≠ 64 ∧ c.toNat ≠ 58
theorem hc_hostC (c : UInt8) (h : (hc c || decide (c = 46)) = true) : hostC c := by
 unfold hostC
 rcases Bool.or_eq_true_iff.1 h with q | q
 ·have := (hc_iff c).1 q; omega
 ·have := of_decide_eq_true q; subst this; decide
theorem four_hostC (a : Nat) : ∀ c ∈ fourB a, hostC c := fun c hc => by
 have h : (48 ≤ c.toNat ∧ c.toNat ≤ 57) ∨ c = 46 := by
  unfold fourB at hc
  simp only [List.mem_append, List.mem_cons] at hc
  rcases hc with q | q | q | q | q | q | q
  ·exact .inl (dec_dg _ c q)
  ·exact .inr q
  ·exact .inl (dec_dg _ c q)
  ·exact .inr q
  ·exact .inl (dec_dg _ c q)
  ·exact .inr q
  ·exact .inl (dec_dg _ c q)
 unfold hostC
 rcases h with q | rfl
 ·omega
 ·decide
structure HostRt (k : Int) (n : Bs) (a : Int) : Prop where
 back : hostGV (hostPV k n a) = (k, B n, a, true)
 ne : hostPV k n a ≠ []
 ok : ∀ c ∈ hostPV k n a, hostC c
 kind : k ≠ 0
 size : n.length ≤ 60
 put : (hostPV k n a).length ≤ 60
theorem host_rt (t : Bs) (h : (hostGV t).2.2.2 = true) : HostRt (hostGV t).1 (hostGV t).2.1.data.toList (hostGV t).2.2.1 := by
 rcases hostGV_shape t with e | ⟨l, hl, e⟩ | ⟨a, ha, e⟩
 ·rw [e] at h; cases h
 ·rw [e]
  show HostRt 1 (B l).data.toList 0
  rw [B_data]
  have hp := hostPV_name l hl
  have hlen := plain_len l hl
  refine ⟨by rw [hp]; exact hostGV_name l hl, by rw [hp]; exact hlen.1, fun c hc => ?_, by decide, hlen.2, by rw [hp]; exact hlen.2⟩
  rw [hp] at hc
  have h1 := (Bool.and_eq_true_iff.1 hl).1
  unfold isHost at h1
  have h2 := (Bool.and_eq_true_iff.1 (Bool.and_eq_true_iff.1 h1).1).1
  exact hc_hostC c (List.all_eq_true.1 h2 c hc)
 ·rw [e]
  show HostRt 2 [] (a : Int)
  have hp := hostPV_four a ha
  have hne : fourB a ≠ [] := by
   unfold fourB; intro q
   have := congrArg List.length q
   simp at this
  refine ⟨by rw [hp]; exact hostGV_four a ha, by rw [hp]; exact hne, fun c hc => by rw [hp] at hc; exact four_hostC a c hc, by decide, by simp, by rw [hp]; have := fourB_len a; omega⟩
theorem host_size (t : Bs) (h : (hostGV t).2.2.2 = true) : (hostPV (hostGV t).1 (hostGV t).2.1.data.toList (hostGV t).2.2.1).length ≤ t.length + 15 := by
 have hs := hostGV_shape t
 rcases hs with e | ⟨l, hl, e⟩ | ⟨a, ha, e⟩
 ·rw [e] at h; cases h
 ·have hle : l.length ≤ t.length := by
   have hg : hostGV t = (1, B l, 0, true) := e
   unfold hostGV at hg
   split at hg
   ·unfold hostV at hg
    split at hg
    ·cases hg
    ·split at hg
     ·split at hg <;> cases hg
     ·split at hg
      ·have hb : B (hostT0 t) = B l := by simpa using congrArg (fun x => x.2.1) hg
       rw [← B_inj.1 hb]
       unfold hostT0
       rw [lower_length]; exact decMax_len t
      ·cases hg
   ·cases hg
  rw [e]
  show (hostPV 1 (B l).data.toList 0).length ≤ _
  rw [B_data, hostPV_name l hl]; omega
 ·rw [e]
  show (hostPV 2 [] (a : Int)).length ≤ _
  rw [hostPV_four a ha]
  have := fourB_len a; omega
end Go.Proofs.YtndobphgeiamhaaGreatDoor.H
/- (*impl.Url).tail: the call sets query and fragment in the address's block, and nothing else that was there; impl.sets reads as its table, internal/bytealg.MaxLen holds some integer. -/
set_option linter.unusedVariables false
namespace Go.Proofs.YtndobphgeiamhaaGreatDoor.H
open Go.RowKit Go.Proofs.YtndobphgeiamhaaGreatDoorW.PrintWords Go.Proofs.YtndobphgeiamhaaGreatDoor.Base Go.Proofs.YtndobphgeiamhaaGreatDoor.Pure
theorem cutU_walk (c : UInt8) (l : Bs) (w : World) (hT : TabM w) (hl : l.length < 4294967281) :
  Calls Tryz.prog 101 #[.string (B l), .string (B [c])] w fun e w' => e = .returned (.tuple #[.string (B (cutAh c l)), .string (B (cutBe c l)), .bool (l.contains c)]) ∧ Below w.heap.size w w' := by
 refine strings_Cut.calls (B l) (B [c]) (B (cutAh c l), B (cutBe c l), l.contains c) w hT ?_
 unfold strings_Cut.f
 rw [if_pos (by simpa using hl), B_data, B_data]
theorem encU_walk (n : Int) (l : Bs) (w : World) (hT : TabS w) (hl : l.length ≤ 1000000) :
  Calls Tryz.prog 97 #[.int .i64 n, .string (B l)] w fun e w' => e = .returned (.string (B (enc (setB n) l))) ∧ Below w.heap.size w w' := by
 rw [← enc_same]
 exact encode_walk n l w hT (by have := (enc_len (setI n) l).2; omega)
set_option maxHeartbeats 4000000 in
set_option maxRecDepth 100000 in
theorem tail_walk (g : Nat) (u : Ur) (pv : Value) (l : Bs) (w0 w : World) (hB : Below w0.heap.size w0 w) (hg : w0.heap.size ≤ g) (hb : Blk w g (uCells u pv)) (hS : TabS w0) (hM : TabM w0) (hl : l.length ≤ 1000000) :
  Calls Tryz.prog 98 #[.pointer (some ⟨g, 0, none⟩), .string (B l)] w fun e w' => e = .returned (.tuple #[]) ∧ Blk w' g (uCells (setTail u l) pv) ∧ w.grownBy w' (some g) := by
 have hq : (setTail u l) = { u with hq := !(cutAh 35 l).isEmpty, qry := enc (setB 2) ((cutAh 35 l).drop 1), hf := l.contains 35, frg := enc (setB 3) (cutBe 35 l) } := rfl
 have h1 := cutAh_le 35 l
 have h2 := cutBe_le 35 l
 have hC := cutU_walk 35 l w (hM.below hB) (by omega)
 generalize cutAh 35 l = x at hq h1 hC
 generalize cutBe 35 l = y at hq h2 hC
 generalize l.contains 35 = b at hq hC
 have HC := Lib.hid hC
 have HQ := Lib.hid hq
 clear hC hq
 go_enter Tryz.func98, Tryz.ntmps98
 go_wp2_with fail
 refine HC.out.mono ?_
 rintro e w1 ⟨rfl, hb1⟩
 have k1 : Blk w1 g (uCells u pv) := hb.below hb1
 have g1 : w.grownBy w1 (some g) := grown_b hb1
 go_wp2_with fail
 refine (encU_walk 3 y w1 (hS.below (below_by hB hg g1)) (by omega)).mono ?_
 rintro e w2 ⟨rfl, hb2⟩
 have k2 := k1.below hb2
 have g2 := g1.trans (grown_b (row := some g) hb2)
 have kc := k2.cells
 generalize enc (setB 3) y = fr at HQ ⊢
 by_cases hx : x = []
 ·subst hx
  have e2 : ([] : Bs).isEmpty = true := rfl
  go_wp2
  exact end0 rfl rfl ⟨rfl, by rw [HQ.out]; exact (((k2.put 11 _).put 12 _).put 9 _).put 10 _, grown_put (grown_put (grown_put (grown_put g2 _ _) _ _) _ _) _ _⟩
 ·obtain ⟨c, t, rfl⟩ : ∃ c t, x = c :: t := by
   cases x with
   | nil => exact absurd rfl hx
   | cons c t => exact ⟨c, t, rfl⟩
  have e2 : ((c :: t : Bs) != []) = true := rfl
  have e3 : (c :: t : Bs).isEmpty = false := rfl
  have ex : (B (c :: t)).extract 1 (t.length + 1) = B t := by rw [B_extract, List.take_of_length_le (by simp)]; rfl
  have k3 := (((k2.put 11 (.bool b)).put 12 (.string (B fr))).put 9 (.bool false)).put 10 (.string (B []))
  have g3 := grown_put (grown_put (grown_put (grown_put g2 11 (.bool b)) 12 (.string (B fr))) 9 (.bool false)) 10 (.string (B []))
  go_wp2_with fail
  refine (encU_walk 2 t _ (hS.below (below_by hB hg g3)) (by rw [List.length_cons] at h1; omega)).mono ?_
  rintro e w4 ⟨rfl, hb4⟩
  have k4 := k3.below hb4
  have g4 := g3.trans (grown_b (row := some g) hb4)
  have kc4 := k4.cells
  clear kc
  go_wp2
  exact end0 rfl rfl ⟨rfl, by rw [HQ.out]; exact (k4.put 9 _).put 10 _, grown_put (grown_put g4 _ _) _ _⟩
end Go.Proofs.YtndobphgeiamhaaGreatDoor.H
/- impl.special, (impl.Url).tailText, (impl.Url).text: what the calls come to. -/
set_option linter.unusedVariables false
namespace Go.Proofs.YtndobphgeiamhaaGreatDoor.H
open Go.RowKit Go.Proofs.YtndobphgeiamhaaGreatDoorW.PrintWords Go.Proofs.YtndobphgeiamhaaGreatDoor.Base Go.Proofs.YtndobphgeiamhaaGreatDoor.Pure
theorem special_walk (s : Bs) (w : World) : Calls Tryz.prog 57 #[.string (B s)] w fun e w' => e = .returned (.tuple #[.int .i64 (ownP s), .bool (decide (0 ≤ ownP s))]) ∧ w' = w := by
 by_cases c1 : s = [104, 116, 116, 112]
 ·subst c1
  go_enter Tryz.func57, Tryz.ntmps57
  go_wp2
  go_ret2
  exact ⟨rfl, rfl⟩
 ·have c1b := str_ne c1
  by_cases c2 : s = [104, 116, 116, 112, 115]
  ·subst c2
   go_enter Tryz.func57, Tryz.ntmps57
   go_wp2
   go_ret2
   exact ⟨rfl, rfl⟩
  ·have c2b := str_ne c2
   have e : ownP s = -1 := by unfold ownP; rw [if_neg c1, if_neg c2]
   rw [e]; clear e c1 c2
   go_enter Tryz.func57, Tryz.ntmps57
   go_wp2
   go_ret2
   exact ⟨rfl, rfl⟩
structure Fit (u : Ur) : Prop where
 s : u.sch.length ≤ 1048576
 us : u.usr.length ≤ 1048576
 ps : u.pas.length ≤ 1048576
 hn : u.hn.length ≤ 1048576
 o : u.opq.length ≤ 1048576
 q : u.qry.length ≤ 1048576
 f : u.frg.length ≤ 1048576
 p : (pathPut u.path).length ≤ 2097152
 pl : u.path.length ≤ 1048576
 port : -9223372036854775808 ≤ u.port ∧ u.port ≤ 9223372036854775807
theorem bapp (a b : Bs) : B a ++ B b = B (a ++ b) := B_append a b
theorem tailB_len (u : Ur) (hu : Fit u) : (tailB u).length ≤ 2097154 := by
 have h1 := hu.q
 have h2 := hu.f
 unfold tailB
 rw [List.length_append]
 have e1 : (if u.hq = true then 63 :: u.qry else []).length ≤ 1048577 := by split <;> simp; omega
 have e2 : (if u.hf = true then 35 :: u.frg else []).length ≤ 1048577 := by split <;> simp; omega
 omega
set_option maxHeartbeats 1000000 in
set_option maxRecDepth 100000 in
theorem tailText_walk (u : Ur) (pv : Value) (w : World) (hu : Fit u) :
  Calls Tryz.prog 75 #[.agg (uCells u pv)] w fun e w' => e = .returned (.string (B (tailB u))) ∧ Below w.heap.size w w' := by
 have h1 := hu.q
 have h2 := hu.f
 have e63 : (⟨#[63]⟩ : ByteArray) = B [63] := rfl
 have e35 : (⟨#[35]⟩ : ByteArray) = B [35] := rfl
 have e0 : (⟨#[]⟩ : ByteArray) = B [] := rfl
 have eap := bapp
 have hT : tailB u = (if u.hq = true then 63 :: u.qry else []) ++ (if u.hf = true then 35 :: u.frg else []) := rfl
 have HT := Lib.hid hT
 clear hT
 generalize tailB u = x at HT ⊢
 unfold uCells
 go_enter Tryz.func75, Tryz.ntmps75
 go_wp2
 all_goals
  go_ret
  exact ⟨by rw [HT.out]; simp [*], (Below.refl _ w).alloc (Nat.le_refl _) _⟩
theorem itoaB (n : Int) (h0 : 0 ≤ n) (h1 : n ≤ 9223372036854775807) (w : World) (hT : TabI w) : Calls Tryz.prog 76 #[.int .i64 n] w fun e w' => e = .returned (.string (B (Lib.decDigits n.toNat))) ∧ Below w.heap.size w w' := by
 refine strconv_Itoa.calls n _ w hT ?_
 unfold strconv_Itoa.f
 rw [if_pos ⟨by omega, h1⟩]
 have e : n = ((n.toNat : Nat) : Int) := by omega
 conv => lhs; rw [e]
 rw [itoa_nat]
theorem pathPutU_walk (pv : Value) (ps : List Bs) (w : World) (h : PathAt w pv ps) (h1 : ps.length ≤ 1048576) (h2 : (pathPut ps).length ≤ 2097152) :
  Calls Tryz.prog 77 #[pv] w fun e w' => e = .returned (.string (B (pathPut ps))) ∧ Below w.heap.size w w' := by
 obtain ⟨A, c, rfl, hc, hk⟩ := h
 have e : segs (ps.map B) = ps := by unfold segs; rw [List.map_map]; exact (List.map_congr_left fun s _ => B_data s).trans (List.map_id ps)
 have := pathPut_walk A c (ps.map B) w hk (by simpa using hc) (by simp; omega) (by rw [e]; omega)
 rw [e, List.length_map] at this
 exact this
theorem dec_len19 (n : Int) (h : n ≤ 9223372036854775807) : (Lib.decDigits n.toNat).length ≤ 19 := by
 refine dec_le 19 n.toNat ?_ (by omega)
 have : (10 : Nat) ^ 19 = 10000000000000000000 := by decide
 omega
theorem hostPV_len (k a : Int) (n : Bs) (h : n.length ≤ 1048576) : (hostPV k n a).length ≤ 1048576 := by
 unfold hostPV
 split
 ·split
  ·have := fourB_len a.toNat; omega
  ·exact h
 ·simp
theorem ret_str {a b : Bs} (h : a = b) : Ending.returned (.string (B a)) = .returned (.string (B b)) := by rw [h]
theorem userB_e (u : Ur) : userB u = if (u.usr.isEmpty && u.pas.isEmpty) = true then [] else u.usr ++ (if u.pas.isEmpty = true then [] else 58 :: u.pas) ++ [64] := by
 unfold userB
 cases u.usr <;> cases u.pas <;> simp
theorem held_new (w : World) (c0 c1 c2 c3 c4 c5 c6 c7 c8 c9 c10 c11 c12 : Value) : Held w w.heap.size c0 c1 c2 c3 c4 c5 c6 c7 c8 c9 c10 c11 c12 (w.alloc (.cells #[c0, c1, c2, c3, c4, c5, c6, c7, c8, c9, c10, c11, c12] 33)) := ⟨(Blk.cells (blk_new w _)).1, (Below.refl _ w).alloc (Nat.le_refl _) _⟩
set_option maxHeartbeats 4000000 in
set_option maxRecDepth 100000 in
theorem text_walk (u : Ur) (pv : Value) (w : World) (hu : Fit u) (hM : TabM w) (hI : TabI w) (hP : PathAt w pv u.path) :
  Calls Tryz.prog 55 #[.agg (uCells u pv)] w fun e w' => e = .returned (.string (B (putU u))) ∧ Below w.heap.size w w' := by
 have f5 := tailB_len u hu
 have f7 := hostPV_len u.hk u.ha u.hn hu.hn
 have HTT := Lib.hid fun w1 => tailText_walk u pv w1 hu
 have HPP : Hid (∀ w1, Below w.heap.size w w1 → Calls Tryz.prog 77 #[pv] w1 fun e w' => e = .returned (.string (B (pathPut u.path))) ∧ Below w1.heap.size w1 w') := Lib.hid fun w1 hb => pathPutU_walk pv u.path w1 (hP.below hb) hu.pl hu.p
 have HHP := Lib.hid fun w1 (hb : Below w.heap.size w w1) => implHostPut_walk u.hk u.hn u.ha w1 ⟨hM.below hb, hI.below hb⟩ hu.hn
 have HT : Hid (putU u = u.sch ++ [58] ++ (if ownP u.sch < 0 then u.opq else [47, 47] ++ userB u ++ hostPV u.hk u.hn u.ha ++ portB u.port ++ pathPut u.path) ++ tailB u) := Lib.hid rfl
 have HUB := Lib.hid (userB_e u)
 generalize putU u = x at HT ⊢
 generalize tailB u = tl at HT HTT f5
 generalize userB u = ub at HT HUB
 obtain ⟨f1, f2, f3, _, f4, _, _, f6, _, f8⟩ := hu
 obtain ⟨sch, usr, pas, hk, hn, ha, port, path, opq, hq, qry, hf, frg⟩ := u
 unfold uCells at HTT ⊢
 dsimp only at *
 generalize hostPV hk hn ha = hp at HT HHP f7
 generalize pathPut path = pp at HT HPP f6
 have HS := held_new w (.string (B sch)) (.string (B usr)) (.string (B pas)) (.int .i64 hk) (.string (B hn)) (.int .i64 ha) (.int .i64 port) pv (.string (B opq)) (.bool hq) (.string (B qry)) (.bool hf) (.string (B frg))
 have e58 : (⟨#[58]⟩ : ByteArray) = B [58] := rfl
 have e47 : (⟨#[47, 47]⟩ : ByteArray) = B [47, 47] := rfl
 have e64 : (⟨#[64]⟩ : ByteArray) = B [64] := rfl
 have e0 : (⟨#[]⟩ : ByteArray) = B [] := rfl
 have eap := bapp
 have HC := Lib.hid (special_walk sch)
 by_cases ho : ownP sch < 0
 ·have hd : decide (0 ≤ ownP sch) = false := decide_eq_false (by omega)
  have k1 : ¬ 9223372036854775807 < sch.length + 1 + opq.length := by omega
  have k2 : ¬ 9223372036854775807 < sch.length + (opq.length + 1) + tl.length := by omega
  go_enter Tryz.func55, Tryz.ntmps55
  go_wp2_with fail
  refine (HC.out _).mono ?_
  rintro e w1 ⟨rfl, hw1⟩
  subst w1
  rw [hd]
  go_wp2_with fail
  go_region_held3 (Held w w.heap.size (.string (B sch)) (.string (B usr)) (.string (B pas)) (.int .i64 hk) (.string (B hn)) (.int .i64 ha) (.int .i64 port) pv (.string (B opq)) (.bool hq) (.string (B qry)) (.bool hf) (.string (B frg)))
   (first | assumption | (refine Held.drew ?_; assumption) | exact Held.go (by assumption) (by assumption))
   ((go_at_call 75; refine (HTT.out _).mono ?_; rintro e w2 ⟨rfl, hb2⟩))
  all_goals
   go_wp2
   go_ret
   exact ⟨by rw [HT.out, if_pos ho]; simp, (by assumption : Held w w.heap.size (.string (B sch)) (.string (B usr)) (.string (B pas)) (.int .i64 hk) (.string (B hn)) (.int .i64 ha) (.int .i64 port) pv (.string (B opq)) (.bool hq) (.string (B qry)) (.bool hf) (.string (B frg)) _).2⟩
 ·have hd : decide (0 ≤ ownP sch) = true := decide_eq_true (by omega)
  have HI : Hid (∀ w1, Below w.heap.size w w1 → 0 ≤ port → Calls Tryz.prog 76 #[.int .i64 port] w1 fun e w' => e = .returned (.string (B (Lib.decDigits port.toNat))) ∧ Below w1.heap.size w1 w') := Lib.hid fun w1 hb h0 => itoaB port h0 f8.2 w1 (hI.below hb)
  have f9 := dec_len19 port f8.2
  obtain ⟨dp, HDP⟩ : ∃ dp, Hid (Lib.decDigits port.toNat = dp) := ⟨_, Lib.hid rfl⟩
  rw [HDP.out] at HI f9
  obtain ⟨zz, HZ⟩ : ∃ zz, Hid (zz = sch ++ [58, 47, 47] ++ ub ++ hp ++ portB port) := ⟨_, Lib.hid rfl⟩
  have lu : ub.length ≤ 2097154 := by
   rw [HUB.out]
   split
   ·simp
   ·split <;> simp <;> omega
  have lz : zz.length ≤ 6000000 := by
   have hpb : (portB port).length ≤ 20 := by
    unfold portB; rw [HDP.out]; split <;> simp; omega
   rw [HZ.out]; simp; omega
  have k1 : ¬ 9223372036854775807 < zz.length + pp.length := by omega
  have k2 : ¬ 9223372036854775807 < zz.length + pp.length + tl.length := by omega
  have HO := Lib.hid ho
  go_enter Tryz.func55, Tryz.ntmps55
  go_wp2_with fail
  refine (HC.out _).mono ?_
  rintro e w1 ⟨rfl, hw1⟩
  subst w1
  rw [hd]
  go_upto_region 6 with fail
  go_cut [33] (fun v wc => v = .bool (!(usr.isEmpty && pas.isEmpty)) ∧ wc = w.alloc (.cells #[.string (B sch), .string (B usr), .string (B pas), .int .i64 hk, .string (B hn), .int .i64 ha, .int .i64 port, pv, .string (B opq), .bool hq, .string (B qry), .bool hf, .string (B frg)] 33))
  case first =>
   cases h1 : usr.isEmpty <;> cases h2 : pas.isEmpty
   all_goals
    go_wp2
    go_meet
    case rel => exact ⟨by simp [h1, h2], rfl⟩
  case rest =>
   obtain ⟨rfl, rfl⟩ := hcut
   go_upto_if 33 with fail
   go_cut [3] (fun v wc => v = .string (B (sch ++ [58, 47, 47] ++ ub)) ∧ wc = w.alloc (.cells #[.string (B sch), .string (B usr), .string (B pas), .int .i64 hk, .string (B hn), .int .i64 ha, .int .i64 port, pv, .string (B opq), .bool hq, .string (B qry), .bool hf, .string (B frg)] 33))
   case first =>
    cases h1 : usr.isEmpty <;> cases h2 : pas.isEmpty
    all_goals
     have HY := Lib.hid HUB.out
     rw [h1, h2] at HY
     go_wp2
     go_meet
     case rel => exact ⟨by rw [HY.out]; simp, rfl⟩
   case rest =>
    obtain ⟨rfl, rfl⟩ := hcut
    go_wp2_with fail
    refine (HHP.out _ HS.2).mono ?_
    rintro e w1 ⟨rfl, hb1⟩
    have HS1 := HS.go hb1
    clear hb1
    go_upto_if 55 with fail
    go_cut [3] (fun v wc => v = .string (B zz) ∧ Held w w.heap.size (.string (B sch)) (.string (B usr)) (.string (B pas)) (.int .i64 hk) (.string (B hn)) (.int .i64 ha) (.int .i64 port) pv (.string (B opq)) (.bool hq) (.string (B qry)) (.bool hf) (.string (B frg)) wc)
    case first =>
     by_cases h0 : 0 ≤ port
     ·have h0b : decide (0 ≤ port) = true := decide_eq_true h0
      have HPB : Hid (portB port = 58 :: dp) := Lib.hid (by unfold portB; rw [if_pos h0, HDP.out])
      go_wp2_with fail
      refine (HI.out _ HS1.2 h0).mono ?_
      rintro e w2 ⟨rfl, hb2⟩
      have HS2 := HS1.go hb2
      clear hb2
      go_wp2
      go_meet
      case rel => exact ⟨by rw [HZ.out, HPB.out]; simp, HS2⟩
     ·have h0b : decide (0 ≤ port) = false := decide_eq_false h0
      have HPB : Hid (portB port = []) := Lib.hid (by unfold portB; rw [if_neg h0])
      go_wp2
      go_meet
      case rel => exact ⟨by rw [HZ.out, HPB.out]; simp, HS1⟩
    case rest =>
     obtain ⟨rfl, HS2⟩ := hcut
     go_wp2_with fail
     go_region_held3 (Held w w.heap.size (.string (B sch)) (.string (B usr)) (.string (B pas)) (.int .i64 hk) (.string (B hn)) (.int .i64 ha) (.int .i64 port) pv (.string (B opq)) (.bool hq) (.string (B qry)) (.bool hf) (.string (B frg)))
      (first | assumption | (refine Held.drew ?_; assumption) | exact Held.go (by assumption) (by assumption))
      (first | ((go_at_call 75; refine (HTT.out _).mono ?_; rintro e w3 ⟨rfl, hb3⟩)) | ((go_at_call 77; refine (HPP.out _ (And.right (by assumption))).mono ?_; rintro e w3 ⟨rfl, hb3⟩)))
     all_goals
      go_wp2
      go_ret
      exact ⟨ret_str (show zz ++ (pp ++ tl) = x by rw [HT.out, if_neg (Int.not_lt.2 HO.out), HZ.out]; simp), (by assumption : Held w w.heap.size (.string (B sch)) (.string (B usr)) (.string (B pas)) (.int .i64 hk) (.string (B hn)) (.int .i64 ha) (.int .i64 port) pv (.string (B opq)) (.bool hq) (.string (B qry)) (.bool hf) (.string (B frg)) _).2⟩
end Go.Proofs.YtndobphgeiamhaaGreatDoor.H
/- laws.eqHost, laws.eqUrl, laws.guUrl: an address held against itself. No condition. -/
set_option linter.unusedVariables false
namespace Go.Proofs.YtndobphgeiamhaaGreatDoor.H
open Go.RowKit Go.Proofs.YtndobphgeiamhaaGreatDoorW.PrintWords Go.Proofs.YtndobphgeiamhaaGreatDoor.Base Go.Proofs.YtndobphgeiamhaaGreatDoor.Pure
theorem eqA_host (d : Nat) (w : World) (x0 y0 : Int) (x1 y1 : ByteArray) (x2 y2 : Int) :
  (Op.equalIn (d + 2) 28 (.agg #[.int .i64 x0, .string x1, .int .i64 x2]) (.agg #[.int .i64 y0, .string y1, .int .i64 y2])).run Tryz.prog w = .ok (x0 == y0 && (x1.toList == y1.toList && (x2 == y2))) w := by
 refine eqA_of Tryz.underlying28 (by kernel_rfl) ?_
 refine eqf_cons (by rfl) (by go_simp; rfl) (by go_simp; rfl) (by go_simp) ?_
 refine eqf_cons (by rfl) (by go_simp; rfl) (by go_simp; rfl) (by go_simp) ?_
 exact eqf_last (by rfl) (by go_simp; rfl) (by go_simp; rfl) (by go_simp)
theorem two_cells (w : World) (cs ds : Array Value) (t : TypeId) : (((w.alloc (.cells cs t)).alloc (.cells ds t)).heap[w.heap.size]? = some (.cells cs t (0, 0))) ∧ (((w.alloc (.cells cs t)).alloc (.cells ds t)).heap[w.heap.size + 1]? = some (.cells ds t (0, 0))) ∧ Below w.heap.size w ((w.alloc (.cells cs t)).alloc (.cells ds t)) := by
 refine ⟨blk_below (w := w.alloc (.cells cs t)) (blk_new w (.cells cs t (0, 0))) (below_alloc (Below.refl _ _) _), ?_, ((Below.refl _ w).alloc (Nat.le_refl _) _).alloc (by simp) _⟩
 have := blk_new (w.alloc (.cells cs t)) (.cells ds t (0, 0))
 have e : (w.alloc (.cells cs t)).heap.size = w.heap.size + 1 := by simp
 rw [e] at this; exact this
set_option maxRecDepth 100000 in
theorem eqHost_walk (k a : Int) (n : Bs) (w : World) :
  Calls Tryz.prog 36 #[.agg #[.int .i64 k, .string (B n), .int .i64 a], .agg #[.int .i64 k, .string (B n), .int .i64 a]] w fun e w' => e = .returned (.bool true) ∧ Below w.heap.size w w' := by
 obtain ⟨K2, K3, HB⟩ := two_cells w #[.int .i64 k, .string (B n), .int .i64 a] #[.int .i64 k, .string (B n), .int .i64 a] 28
 have b1 : (n == n) = true := by simp
 go_enter Tryz.func36, Tryz.ntmps36
 go_wp2
 go_ret
 exact ⟨rfl, HB⟩
set_option maxHeartbeats 2000000 in
set_option maxRecDepth 100000 in
theorem eqUrl_walk (u : Ur) (pv qv : Value) (w : World) (hP : PathAt w pv u.path) (hQ : PathAt w qv u.path) (hm : u.path.length ≤ 1048576) :
  Calls Tryz.prog 14 #[.agg (uCells u pv), .agg (uCells u qv)] w fun e w' => e = .returned (.bool true) ∧ Below w.heap.size w w' := by
 obtain ⟨K2, K3, HB⟩ := two_cells w (uCells u pv) (uCells u qv) 33
 have K2 : Blk _ w.heap.size (uCells u pv) := K2
 have K3 : Blk _ (w.heap.size + 1) (uCells u qv) := K3
 have HS := Lib.hid fun w1 (hb : Below w.heap.size w w1) => eqStringS_walk pv qv u.path w1 (hP.below hb) (hQ.below hb) hm
 have HH := Lib.hid fun w1 => eqHost_walk u.hk u.ha u.hn w1
 clear hP hQ
 obtain ⟨sch, usr, pas, hk, hn, ha, port, path, opq, hq, qry, hf, frg⟩ := u
 unfold uCells at *
 dsimp only at *
 go_enter Tryz.func14, Tryz.ntmps14
 go_upto_region 1 with fail
 generalize (w.alloc _).alloc _ = w1 at K2 K3 HB ⊢
 generalize w.heap.size + 1 = g at K3 ⊢
 have kc2 := K2.cells
 have kc3 := K3.cells
 go_wp2_with fail
 refine (HH.out _).mono ?_
 rintro e w2 ⟨rfl, hb2⟩
 have K22 := K2.below hb2
 have K32 := K3.below hb2
 have HB2 := below_then HB HB.size hb2
 clear kc2 kc3 K2 K3 HB hb2
 have kc2 := K22.cells
 have kc3 := K32.cells
 go_wp2_with fail
 refine (HS.out _ HB2).mono ?_
 rintro e w3 ⟨rfl, hb3⟩
 have K23 := K22.below hb3
 have K33 := K32.below hb3
 have HB3 := Lib.hid (below_then HB2 HB2.size hb3)
 clear kc2 kc3 K22 K32 HB2 hb3
 have kc2 := K23.cells
 have kc3 := K33.cells
 go_wp2
 go_ret
 exact ⟨rfl, HB3.out⟩
attribute [local go_sem high] eqA_host
end Go.Proofs.YtndobphgeiamhaaGreatDoor.H
/- (impl.Url).same, spec.l3Equal: two addresses held against each other. No condition. -/
set_option linter.unusedVariables false
namespace Go.Proofs.YtndobphgeiamhaaGreatDoor.H
open Go.RowKit Go.Proofs.YtndobphgeiamhaaGreatDoorW.PrintWords Go.Proofs.YtndobphgeiamhaaGreatDoor.Base Go.Proofs.YtndobphgeiamhaaGreatDoor.Pure
theorem dec1 {α : Type} [BEq α] [LawfulBEq α] (a b : α) : a = b ∨ (a == b) = false := by
 cases h : a == b
 ·exact .inr rfl
 ·exact .inl (eq_of_beq h)
theorem dec3 (a b : Int) (m n : Bs) (c d : Int) : (a = b ∧ m = n ∧ c = d) ∨ (a == b && (m == n && c == d)) = false := by
 cases h : (a == b && (m == n && c == d))
 ·exact .inr rfl
 ·simp only [Bool.and_eq_true, beq_iff_eq] at h
  exact .inl h
attribute [local go_sem high] eqA_host
theorem eqU_row (u v : Ur) : eqU u v = (u.sch == v.sch && (u.usr == v.usr && (u.pas == v.pas && ((u.hk == v.hk && (u.hn == v.hn && u.ha == v.ha)) && (u.port == v.port && (u.path == v.path && (u.opq == v.opq && (u.hq == v.hq && (u.qry == v.qry && (u.hf == v.hf && u.frg == v.frg)))))))))) := by
 unfold eqU; simp only [Bool.and_assoc]
set_option maxHeartbeats 8000000 in
set_option maxRecDepth 100000 in
theorem same_walk (u v : Ur) (pv qv : Value) (w : World) (hP : PathAt w pv u.path) (hQ : PathAt w qv v.path) (hm : u.path.length ≤ 1048576) :
  Calls Tryz.prog 56 #[.agg (uCells u pv), .agg (uCells v qv)] w fun e w' => e = .returned (.bool (eqU u v)) ∧ Below w.heap.size w w' := by
 obtain ⟨k2, k3, HB⟩ := two_cells w (uCells u pv) (uCells v qv) 33
 have K2 : Blk _ w.heap.size (uCells u pv) := k2
 have K3 : Blk _ (w.heap.size + 1) (uCells v qv) := k3
 have HS := Lib.hid fun w1 (hb : Below w.heap.size w w1) => slEqual_walk pv qv u.path v.path w1 (hP.below hb) (hQ.below hb) hm
 clear hP hQ k2 k3
 rw [eqU_row u v]
 obtain ⟨sch, usr, pas, hk, hn, ha, port, path, opq, hq, qry, hf, frg⟩ := u
 obtain ⟨sch', usr', pas', hk', hn', ha', port', path', opq', hq', qry', hf', frg'⟩ := v
 unfold uCells at *
 dsimp only at *
 rcases dec1 sch sch' with rfl | h
 rcases dec1 usr usr' with rfl | h
 rcases dec1 pas pas' with rfl | h
 rcases dec3 hk hk' hn hn' ha ha' with ⟨rfl, rfl, rfl⟩ | h
 rcases dec1 port port' with rfl | h
 ·rcases dec1 path path' with rfl | h5
  rcases dec1 opq opq' with rfl | h
  rcases dec1 hq hq' with rfl | h
  rcases dec1 qry qry' with rfl | h
  rcases dec1 hf hf' with rfl | h
  rcases dec1 frg frg' with rfl | h
  all_goals
   first
   | simp only [h, beq_self_eq_true, Bool.true_and, Bool.and_self, Bool.false_and]
   | simp only [h5, beq_self_eq_true, Bool.true_and, Bool.and_self, Bool.false_and]
   | simp only [beq_self_eq_true, Bool.and_self]
   go_enter Tryz.func56, Tryz.ntmps56
   go_upto_region 1 with fail
   generalize (w.alloc _).alloc _ = w1 at K2 K3 HB ⊢
   generalize w.heap.size + 1 = g at K3 ⊢
   have kc2 := K2.cells.1
   have kc3 := K3.cells.1
   go_wp2_with fail
   refine (HS.out _ HB).mono ?_
   rintro e w2 ⟨rfl, hb2⟩
   have K22 := K2.below hb2
   have K32 := K3.below hb2
   have HB2 := Lib.hid (below_then HB HB.size hb2)
   clear kc2 kc3 K2 K3 HB hb2
   have kc2 := K22.cells.1
   have kc3 := K32.cells.1
   go_wp2
   go_ret
   exact ⟨by first | rfl | simp only [h5] | simp, HB2.out⟩
 all_goals
  simp only [h, beq_self_eq_true, Bool.true_and, Bool.false_and]
  go_enter Tryz.func56, Tryz.ntmps56
  go_upto_region 1 with fail
  generalize (w.alloc _).alloc _ = w1 at K2 K3 HB ⊢
  generalize w.heap.size + 1 = g at K3 ⊢
  have kc2 := K2.cells.1
  have kc3 := K3.cells.1
  go_wp2
  go_ret
  exact ⟨rfl, HB⟩
end Go.Proofs.YtndobphgeiamhaaGreatDoor.H
