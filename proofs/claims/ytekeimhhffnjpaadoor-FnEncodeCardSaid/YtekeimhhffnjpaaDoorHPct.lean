/- impl.percent, impl.isLetter, impl.isDigit, strings.IndexByte: what their calls come to, for every byte. -/
import Derived.Test.YtekeimhhffnjpaaDoorFormM
import Derived.Test.YtekeimhhffnjpaaDoorLfx1
import Derived.Test.YtekeimhhffnjpaaDoorShelf
import Derived.Lib.Bytealg
import Derived.Laws.BitsLemmas
namespace Go.Proofs.YtekeimhhffnjpaaDoor.H
open Go.RowKit Go.Proofs.YtekeimhhffnjpaaDoorW.PrintWords Go.Proofs.YtekeimhhffnjpaaDoor.Base
theorem fig_bt (n : Nat) : bt (⟨#[48, 49, 50, 51, 52, 53, 54, 55, 56, 57, 65, 66, 67, 68, 69, 70]⟩ : ByteArray) ((n : Nat) : Int) = (((fig n).toNat : Nat) : Int) := by
  have : (⟨#[48, 49, 50, 51, 52, 53, 54, 55, 56, 57, 65, 66, 67, 68, 69, 70]⟩ : ByteArray) = B figs := rfl
  rw [this, bt_B, Int.toNat_natCast]; rfl
theorem percent_some (c : UInt8) : Lf.impl_percent.f ((c.toNat : Nat) : Int) = some (B (pct c)) := by
  have h := lt256 c
  unfold Lf.impl_percent.f
  have e1 : (((c.toNat : Nat) : Int) / 16) = ((c.toNat / 16 : Nat) : Int) := rfl
  have e2 : Go.bits .and .u8 ((c.toNat : Nat) : Int) 15 = ((c.toNat % 16 : Nat) : Int) := by
    rw [u8_and15 _ (by omega) (by omega)]; rfl
  rw [e1, e2, if_pos (by omega), if_pos (by omega), if_pos (by omega), if_pos (by omega), fig_bt, fig_bt]
  exact congrArg some (str_ns (pct c))
theorem percent_walk (c : UInt8) (w : World) : Calls Tryd.prog 95 #[.int .u8 ((c.toNat : Nat) : Int)] w fun e w' => e = .returned (.string (B (pct c))) ∧ Below w.heap.size w w' :=
  Lf.impl_percent.calls _ _ w (percent_some c)
theorem isLetter_walk (c : UInt8) (w : World) : Calls Tryd.prog 100 #[.int .u8 ((c.toNat : Nat) : Int)] w fun e w' => e = .returned (.bool (isLet c)) ∧ Drawn0 w w' := by
  refine Lf.impl_isLetter.calls _ _ w ?_
  unfold Lf.impl_isLetter.f isLet
  by_cases h1 : ((c.toNat : Nat) : Int) ≥ 97
  · rw [if_pos h1]
    by_cases h2 : ((c.toNat : Nat) : Int) ≤ 122
    · rw [if_pos h2]; congr 1; simp; omega
    · rw [if_neg h2]
      by_cases h3 : ((c.toNat : Nat) : Int) ≥ 65
      · rw [if_pos h3]; congr 1; exact bool_eq (by simp; omega)
      · rw [if_neg h3]; congr 1; symm; simp; omega
  · rw [if_neg h1]
    by_cases h3 : ((c.toNat : Nat) : Int) ≥ 65
    · rw [if_pos h3]; congr 1; exact bool_eq (by simp; omega)
    · rw [if_neg h3]; congr 1; symm; simp; omega
theorem isDigit_walk (c : UInt8) (w : World) : Calls Tryd.prog 101 #[.int .u8 ((c.toNat : Nat) : Int)] w fun e w' => e = .returned (.bool (isDig c)) ∧ Drawn0 w w' := by
  refine Lf.impl_isDigit.calls _ _ w ?_
  unfold Lf.impl_isDigit.f isDig
  by_cases h1 : ((c.toNat : Nat) : Int) ≥ 48
  · rw [if_pos h1]; congr 1; exact bool_eq (by simp; omega)
  · rw [if_neg h1]; congr 1; symm; simp; omega
theorem idx_iff (l : Bs) (c : UInt8) : 0 ≤ Lib.indexByte l c ↔ l.contains c = true := by
  induction l with
  | nil => simp [Lib.indexByte]
  | cons b t ih =>
    unfold Lib.indexByte
    have hge := Lib.indexByte_ge t c
    rw [List.contains_cons]
    by_cases e : b = c
    · subst e; simp
    · have e1 : (b == c) = false := by rw [beq_eq_false_iff_ne]; exact e
      have e2 : (c == b) = false := by rw [beq_eq_false_iff_ne]; exact fun h => e h.symm
      rw [e1, e2, Bool.false_or, ← ih]
      simp only [Bool.false_eq_true, if_false]
      by_cases h : Lib.indexByte t c = -1
      · simp [h]
      · rw [if_neg (by simpa using h)]; omega
theorem indexByte_walk (l : Bs) (c : UInt8) (w : World) : Calls Tryd.prog 94 #[.string (B l), .int .u8 ((c.toNat : Nat) : Int)] w fun e w' => e = .returned (.int .i64 (Lib.indexByte l c)) ∧ w' = w := by
  have := Tryd.strings_IndexByte (B l) ((c.toNat : Nat) : Int) w
  have e : ((c.toNat : Nat) : Int).toNat.toUInt8 = c := by simp
  rw [e, B_data] at this
  exact this
theorem contains_yes {l : Bs} {c : UInt8} (h : l.contains c = true) : decide (0 ≤ Lib.indexByte l c) = true := decide_eq_true ((idx_iff l c).2 h)
theorem contains_no {l : Bs} {c : UInt8} (h : l.contains c = false) : decide (0 ≤ Lib.indexByte l c) = false := decide_eq_false (fun h' => by rw [(idx_iff l c).1 h'] at h; cases h)
theorem drawn_builder {T e : TypeId} {B b : Nat} {bs : List Value} {w w' : World} (h : Lib.IsBuilder T e B b bs w) (hd : Drawn0 w w') : Lib.IsBuilder T e B b bs w' := by
  obtain ⟨n, rfl⟩ := hd; exact h
theorem below_builder {T e : TypeId} {B b : Nat} {bs : List Value} {w w' : World} (h : Lib.IsBuilder T e B b bs w) (hb : Below w.heap.size w w') : Lib.IsBuilder T e B b bs w' := by
  have go : ∀ p, Lib.BuilderAt T e B b p bs w → Lib.BuilderAt T e B b p bs w' := by
    rintro p ⟨hB, v, hv, hown, hne⟩
    have hlt : b < w.heap.size := (Array.getElem?_eq_some_iff.1 hv).1
    exact ⟨hB, v, by rw [hb.block b hlt]; exact hv, pw_own_below hown hb, hne⟩
  rcases h with h | h
  · exact .inl (go _ h)
  · exact .inr (go _ h)
theorem cells_app (a b : Bs) : Lib.byteCells (a ++ b) = Lib.byteCells a ++ Lib.byteCells b := by simp [Lib.byteCells]
theorem cells_of_str (s : Bs) : Lib.strCells (B s) = Lib.byteCells s := rfl
theorem cells_one (c : UInt8) : Lib.byteCells [c] = [.int .u8 ((c.toNat : Nat) : Int)] := rfl
theorem cells_len (a : Bs) : (Lib.byteCells a).length = a.length := by simp [Lib.byteCells]
end Go.Proofs.YtekeimhhffnjpaaDoor.H
