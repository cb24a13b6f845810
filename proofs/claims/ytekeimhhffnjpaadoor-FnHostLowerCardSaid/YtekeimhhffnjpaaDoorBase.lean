/- Plain words on bytes and lists, of no program: a string as the list of its bytes, and what holds of its parts. No condition. -/
import Derived.Test.YtekeimhhffnjpaaDoorWNEv
import Derived.Lib.Strings
import Derived.Lib.SmallJoins
namespace Go.Proofs.YtekeimhhffnjpaaDoor.Base
open Go.RowKit Go.Proofs.YtekeimhhffnjpaaDoorW.PrintWords

abbrev Bs := List UInt8
/-- The string of these bytes. -/
def B (l : Bs) : ByteArray := ⟨l.toArray⟩
theorem eq_B (s : ByteArray) : s = B s.data.toList := by cases s; simp [B]
theorem exB (s : ByteArray) : ∃ l, s = B l := ⟨_, eq_B s⟩
theorem exBn (s : ByteArray) (n : Nat) (h : s.size ≤ n) : ∃ l, s = B l ∧ l.length ≤ n := ⟨_, eq_B s, by simpa using h⟩
@[simp] theorem B_data (l : Bs) : (B l).data.toList = l := by simp [B]
@[simp] theorem B_toList (l : Bs) : (B l).toList = l := by rw [Go.Lib.toList_data, B_data]
@[simp] theorem B_size (l : Bs) : (B l).size = l.length := by simp [B, ByteArray.size]
@[simp] theorem B_get (l : Bs) (i : Nat) (h : i < (B l).size) : (B l)[i]'h = l[i]'(by simpa using h) := by simp [B, ByteArray.getElem_eq_getElem_data]
theorem B_append (a b : Bs) : B a ++ B b = B (a ++ b) := by
  rw [eq_B (B a ++ B b), Go.Joins.data_append, B_data, B_data]
theorem B_extract (l : Bs) (a b : Nat) : (B l).extract a b = B ((l.drop a).take (b - a)) := by
  rw [eq_B ((B l).extract a b), Go.Lib.extract_data, B_data]
theorem bt_B (l : Bs) (i : Int) : bt (B l) i = ((l[i.toNat]?.getD 0).toNat : Int) := by
  unfold bt
  split
  · rename_i h
    have h' : i.toNat < l.length := by simpa using h
    simp [B, h', ByteArray.getElem_eq_getElem_data]
  · rename_i h
    have h' : l.length ≤ i.toNat := by simpa using h
    simp [List.getElem?_eq_none h']
theorem lit_B (l : Bs) : (⟨⟨l⟩⟩ : ByteArray) = B l := rfl
theorem bool_eq {a b : Bool} (h : a = true ↔ b = true) : a = b := Bool.eq_iff_iff.2 h
theorem byte_eq (x : UInt8) (n : Nat) (h : n < 256) : ((x.toNat : Int) = (n : Int)) ↔ x = UInt8.ofNat n := by
  constructor
  · intro e
    have e' : x.toNat = n := by omega
    exact UInt8.toNat_inj.1 (by rw [e']; simp; omega)
  · intro e; subst e; simp; omega
theorem i64wrap (n : Int) : IntKind.i64.wrap n = wrap64 n := by
  unfold wrap64; simp [IntKind.wrap, IntKind.bits, IntKind.signed]; omega
theorem w64 {n : Int} (h : -9223372036854775808 ≤ n) (h' : n ≤ 9223372036854775807) : wrap64 n = n := by
  unfold wrap64; omega

/-- The bytes as numbers. -/
def ns (l : Bs) : List Int := l.map fun b => ((b.toNat : Nat) : Int)
@[simp] theorem ns_length (l : Bs) : (ns l).length = l.length := by simp [ns]
theorem ns_append (a b : Bs) : ns (a ++ b) = ns a ++ ns b := by simp [ns]
theorem ns_one (c : UInt8) : ns [c] = [((c.toNat : Nat) : Int)] := rfl
theorem str_ns (l : Bs) : strOfNums (ns l) = B l := by
  unfold strOfNums ns B
  simp [Function.comp_def]
theorem ev_of {α : Type} {g : Nat → Option α} {r : α} (h : ∀ k, g k = some r) : Ev g r := ⟨0, fun k _ => h k⟩
theorem ev_1 {α : Type} {g : Nat → Option α} {r : α} (h : ∀ k, g (k + 1) = some r) : Ev g r := ⟨1, fun k hk => by obtain ⟨m, rfl⟩ : ∃ m, k = m + 1 := ⟨k - 1, by omega⟩; exact h m⟩
theorem ev_bind {α β : Type} {g : Nat → Option α} {f : Nat → α → Option β} {a : α} {r : β} (h : Ev g a) (k : Ev (fun n => f n a) r) : Ev (fun n => (g n).bind (f n)) r := Ev.bind h k
theorem get_eq {l : Bs} {i : Nat} (h : i < l.length) : l[i]?.getD 0 = l[i] := by simp [h]
theorem lt256 (c : UInt8) : (c.toNat : Int) < 256 := by have := c.toNat_lt; omega
end Go.Proofs.YtekeimhhffnjpaaDoor.Base
