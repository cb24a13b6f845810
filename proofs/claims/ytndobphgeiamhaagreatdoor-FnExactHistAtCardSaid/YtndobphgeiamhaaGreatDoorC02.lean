/- Texts of this claim, joined: HEntW. Conditions: each theorem's own. -/
import Derived.Test.YtndobphgeiamhaaGreatDoorA01
import Derived.Test.YtndobphgeiamhaaGreatDoorA02
import Derived.Test.YtndobphgeiamhaaGreatDoorA03
import Derived.Test.YtndobphgeiamhaaGreatDoorA04
import Derived.Test.YtndobphgeiamhaaGreatDoorA05
import Derived.Test.YtndobphgeiamhaaGreatDoorA06
import Derived.Test.YtndobphgeiamhaaGreatDoorA07
import Derived.Test.YtndobphgeiamhaaGreatDoorA08
import Derived.Test.YtndobphgeiamhaaGreatDoorA09
import Derived.Test.YtndobphgeiamhaaGreatDoorA10
import Derived.Test.YtndobphgeiamhaaGreatDoorA11
import Derived.Test.YtndobphgeiamhaaGreatDoorA12
import Derived.Test.YtndobphgeiamhaaGreatDoorA13
import Derived.Test.YtndobphgeiamhaaGreatDoorA14
import Derived.Test.YtndobphgeiamhaaGreatDoorA15
import Derived.Test.YtndobphgeiamhaaGreatDoorA16
import Derived.Test.YtndobphgeiamhaaGreatDoorA17
import Derived.Below
import Derived.Deep.Draws
import Derived.Deep.AppendLies
import Derived.Maps.AppendAt
import Derived.OwnWalk
import Derived.Laws.BytesArg
import Derived.Laws.MakeOwn
import Derived.Laws.OwnMore
import Derived.Deep.OwnRows
import Derived.Tactics
import Derived.Lib.ConvBytes
import Derived.Laws.Slices
import Derived.WalkKit
import Derived.KernelRfl
import Derived.RowKit3
import Derived.Deep.LoopGhost
import Derived.Deep.QuietTactic
import Derived.BigQuiet
import Derived.WideLaws
import Derived.Deep.DeepCutAuto
import Derived.Deep.CutBlock
import Derived.Deep.RegionHeld3
import Derived.Laws.Rows
import Derived.Lib.AppendStr
import Derived.ArgAppend
import Derived.Laws.IdiomCopy
import Derived.RowKit
import Derived.OrdersHeld
import Derived.Laws.BitsLemmas
import Derived.Lib.Strings
import Derived.Lib.SmallJoins
import Derived.Lib.LaidTab
import Derived.Lib.ItoaNum
import Derived.SizedLaws
import Derived.Handed
import Derived.LaidMore
import Derived.Stop.Joined
import Derived.Lib.Slices
import Derived.Lib.Walk
import Derived.Lib.Builder
import Derived.Lib.UnsafeStr
import Derived.Lib.MakeNoZero
import Derived.Laws.Externs
import Derived.Shelf.RegionOpenPlain
import Derived.Lib.Split
import Derived.Lib.Replace
import Derived.Lib.ReplaceLaws
import Derived.Lib.IndexLaws
import Derived.Lib.IndexMore
import Derived.Lib.CountLaws
import Derived.Shelf.Strings.Builder1
import Derived.Shelf.Strings.Builder2
import Derived.Shelf.Strings.OnBuilder
import Derived.Shelf.Small.Utf8
import Derived.Shelf.Small.Strs
import Derived.Shelf.Strconv.Itoa0
import Derived.Shelf.Strconv.Itoa1
import Derived.Shelf.LaysM
import Derived.Shelf.Strconv.Itoa2
import Derived.Shelf.Strconv.Itoa3
import Derived.Shelf.Strings.Search1
import Derived.Shelf.Strings.Search2
import Derived.Shelf.Strings.Search3
import Derived.Shelf.Strings.Cut
import Derived.Shelf.Strings.Count
import Derived.Shelf.Strings.Shaped
import Derived.Shelf.Strings.LastIndex
import Derived.Shelf.Strings.Prefix
import Derived.Shelf.Strings.Split
import Derived.Shelf.Strings.Replace
import Derived.Shelf.Strings.Runes
import Derived.Shelf.Strings.IndexAny
import Derived.Shelf.Strings.AsciiSet
import Derived.Shelf.Strings.IndexAnyAll
import Derived.Shelf.Unicode.DecodeSlow
import Derived.Shelf.Slices.Turned
import Derived.Ground.Names2Prog
import Derived.Shelf.Slices.Clone
import Derived.Lib.SplitLaws
import Derived.Lib.Hide
import Derived.Laws.AppendOwn
import Derived.Outline
import Derived.Sort.Grow
import Derived.Laws.StructEq
import Derived.StillTailTactics
import Derived.Deep.RegionWith
import Derived.Lib.Bytealg
import Derived.WalkSmall
import Derived.Lib.IndexAny
import Derived.Lib.LastIndexByte
import Derived.Laws.RangeString
import Derived.Laws.Strings3
import Derived.WalkMore
import Derived.WalkSpells
import Derived.Deep.Strs
import Derived.SliceStrings
import Derived.ChangeArms
import Derived.OpenShut
import Derived.Test.YtndobphgeiamhaaGreatDoorC01
set_option linter.unusedVariables false
namespace Go.Proofs.YtndobphgeiamhaaGreatDoor.H
open Go.RowKit Go.Proofs.YtndobphgeiamhaaGreatDoorW.PrintWords Go.Proofs.YtndobphgeiamhaaGreatDoor.Base Go.Proofs.YtndobphgeiamhaaGreatDoor.Pure
structure En where
  step : Int
  u : Ur
  doc : Int
  key : Int
  st : Bs
def eCells (e : En) (pv : Value) : Array Value := #[.int .i64 e.step, .string (B e.u.sch), .string (B e.u.usr), .string (B e.u.pas), .int .i64 e.u.hk, .string (B e.u.hn), .int .i64 e.u.ha, .int .i64 e.u.port, pv, .string (B e.u.opq), .bool e.u.hq, .string (B e.u.qry), .bool e.u.hf, .string (B e.u.frg), .int .i64 e.doc, .int .i64 e.key, .string (B e.st)]
def RowE (w : World) (v : Value) (es : List En) : Prop := ∃ A c, v = .slice A es.length c ∧ es.length ≤ c ∧ ∀ k (h : k < es.length), ∃ ad pv, A = some ad ∧ PathAt w pv (es[k]).u.path ∧ ∀ j x, (eCells es[k] pv)[j]? = some x → w.cell? (ad.add (k * 17 + j)) = some x
theorem RowE.below {w w1 : World} {v : Value} {es : List En} (h : RowE w v es) (hb : Below w.heap.size w w1) : RowE w1 v es := by
  obtain ⟨A, c, h1, h2, h3⟩ := h
  refine ⟨A, c, h1, h2, fun k hk => ?_⟩
  obtain ⟨ad, pv, a, b, d⟩ := h3 k hk
  exact ⟨ad, pv, a, b.below hb, fun j x q => cell_later hb (d j x q)⟩
def C17 (w : World) (a : Addr) (cs : Array Value) : Prop := w.cell? a = cs[0]? ∧ w.cell? ⟨a.block, a.off + 1, none⟩ = cs[1]? ∧ w.cell? ⟨a.block, a.off + 2, none⟩ = cs[2]? ∧ w.cell? ⟨a.block, a.off + 3, none⟩ = cs[3]? ∧ w.cell? ⟨a.block, a.off + 4, none⟩ = cs[4]? ∧ w.cell? ⟨a.block, a.off + 5, none⟩ = cs[5]? ∧ w.cell? ⟨a.block, a.off + 6, none⟩ = cs[6]? ∧ w.cell? ⟨a.block, a.off + 7, none⟩ = cs[7]? ∧ w.cell? ⟨a.block, a.off + 8, none⟩ = cs[8]? ∧ w.cell? ⟨a.block, a.off + 9, none⟩ = cs[9]? ∧ w.cell? ⟨a.block, a.off + 10, none⟩ = cs[10]? ∧ w.cell? ⟨a.block, a.off + 11, none⟩ = cs[11]? ∧ w.cell? ⟨a.block, a.off + 12, none⟩ = cs[12]? ∧ w.cell? ⟨a.block, a.off + 13, none⟩ = cs[13]? ∧ w.cell? ⟨a.block, a.off + 14, none⟩ = cs[14]? ∧ w.cell? ⟨a.block, a.off + 15, none⟩ = cs[15]? ∧ w.cell? ⟨a.block, a.off + 16, none⟩ = cs[16]?
theorem C17.mk {w : World} {ad : Addr} {k : Nat} {e : En} {pv : Value} (h : ∀ j x, (eCells e pv)[j]? = some x → w.cell? (ad.add (k * 17 + j)) = some x) : C17 w (ad.add (k * 17)) (eCells e pv) := by
  have f : ∀ j, 0 < j → j < 17 → w.cell? ⟨(ad.add (k * 17)).block, (ad.add (k * 17)).off + j, none⟩ = (eCells e pv)[j]? := fun j h0 h1 => by
    obtain ⟨x, hx⟩ : ∃ x, (eCells e pv)[j]? = some x := ⟨_, Array.getElem?_eq_getElem (show j < (eCells e pv).size from h1)⟩
    rw [← add_field _ _ j h0, hx]; exact h j x hx
  refine ⟨?_, f 1 (by omega) (by omega), f 2 (by omega) (by omega), f 3 (by omega) (by omega), f 4 (by omega) (by omega), f 5 (by omega) (by omega), f 6 (by omega) (by omega), f 7 (by omega) (by omega), f 8 (by omega) (by omega), f 9 (by omega) (by omega), f 10 (by omega) (by omega), f 11 (by omega) (by omega), f 12 (by omega) (by omega), f 13 (by omega) (by omega), f 14 (by omega) (by omega), f 15 (by omega) (by omega), f 16 (by omega) (by omega)⟩
  exact h 0 _ rfl
theorem RowE.at {w : World} {A : Option Addr} {n c : Nat} {es : List En} (h : RowE w (.slice A n c) es) (k : Nat) (hk : k < es.length) : ∃ ad pv, A = some ad ∧ PathAt w pv (es[k]).u.path ∧ C17 w (ad.add (k * 17)) (eCells es[k] pv) := by
  obtain ⟨A', c', e, _, h3⟩ := h
  obtain ⟨rfl, _, _⟩ : A = A' ∧ n = es.length ∧ c = c' := by injection e with a b c; exact ⟨a, b, c⟩
  obtain ⟨ad, pv, a, b, d⟩ := h3 k hk
  exact ⟨ad, pv, a, b, C17.mk d⟩
theorem RowE.cell {w : World} {A : Option Addr} {n c : Nat} {es : List En} (h : RowE w (.slice A n c) es) (k : Nat) (hk : k < es.length) : ∃ ad, A = some ad ∧ w.cell? (ad.add (k * 17)) = some (.int .i64 es[k].step) ∧ w.cell? ⟨(ad.add (k * 17)).block, (ad.add (k * 17)).off + 14, none⟩ = some (.int .i64 es[k].doc) ∧ w.cell? ⟨(ad.add (k * 17)).block, (ad.add (k * 17)).off + 15, none⟩ = some (.int .i64 es[k].key) := by
  obtain ⟨ad, pv, a, _, c⟩ := h.at k hk
  exact ⟨ad, a, c.1, c.2.2.2.2.2.2.2.2.2.2.2.2.2.2.1, c.2.2.2.2.2.2.2.2.2.2.2.2.2.2.2.1⟩
def putL (w : World) (g o : Nat) : List Value → World
  | [] => w
  | v :: t => putL (w.setCell ⟨g, o, none⟩ v) g (o + 1) t
def setL (cur : Array Value) (o : Nat) : List Value → Array Value
  | [] => cur
  | v :: t => setL (cur.setIfInBounds o v) (o + 1) t
theorem putL_heap {t : TypeId} {g : Nat} : ∀ (vs : List Value) (w : World) (o : Nat) (cur : Array Value), w.heap[g]? = some (.cells cur t (0, 0)) → (putL w g o vs).heap[g]? = some (.cells (setL cur o vs) t (0, 0))
  | [], _, _, _, h => h
  | v :: s, w, o, cur, h => putL_heap s _ _ _ (blk_set h o v)
theorem putL_grown {g : Nat} {w0 : World} : ∀ (vs : List Value) (w : World) (o : Nat), w0.grownBy w (some g) → w0.grownBy (putL w g o vs) (some g)
  | [], _, _, h => h
  | v :: s, w, o, h => putL_grown s _ _ (grown_put h o v)
theorem putL_below {g : Nat} {w0 : World} (hg : w0.heap.size ≤ g) : ∀ (vs : List Value) (w : World) (o : Nat), Below w0.heap.size w0 w → Below w0.heap.size w0 (putL w g o vs)
  | [], _, _, h => h
  | v :: s, w, o, h => putL_below hg s _ _ (h.setCell hg v)
theorem setL_size : ∀ (vs : List Value) (cur : Array Value) (o : Nat), (setL cur o vs).size = cur.size
  | [], _, _ => rfl
  | v :: s, cur, o => by rw [setL, setL_size s]; simp
theorem setL_old : ∀ (vs : List Value) (cur : Array Value) (o i : Nat), (i < o ∨ o + vs.length ≤ i) → (setL cur o vs)[i]? = cur[i]?
  | [], _, _, _, _ => rfl
  | v :: s, cur, o, i, h => by
    rw [setL, setL_old s _ _ _ (by simp at h; omega), Array.getElem?_setIfInBounds, if_neg (by simp at h; omega)]
theorem setL_new : ∀ (vs : List Value) (cur : Array Value) (o i : Nat), o + vs.length ≤ cur.size → i < vs.length → (setL cur o vs)[o + i]? = vs[i]?
  | [], _, _, _, _, h => absurd h (by simp)
  | v :: s, cur, o, i, h, hi => by
    rw [setL]
    cases i with
    | zero => rw [setL_old s _ _ _ (by omega), Array.getElem?_setIfInBounds, if_pos (by omega), if_pos (by simp at h; omega)]; rfl
    | succ i => rw [show o + (i + 1) = o + 1 + i by omega, setL_new s _ (o + 1) i (by simp at h ⊢; omega) (by simp at hi; omega)]; rfl
theorem cells17 {w : World} {g : Nat} {t : TypeId} {c0 c1 c2 c3 c4 c5 c6 c7 c8 c9 c10 c11 c12 c13 c14 c15 c16 : Value} (h : w.heap[g]? = some (.cells #[c0, c1, c2, c3, c4, c5, c6, c7, c8, c9, c10, c11, c12, c13, c14, c15, c16] t (0, 0))) :
    (w.cell? ⟨g, 0, none⟩ = some c0 ∧ w.cell? ⟨g, 1, none⟩ = some c1 ∧ w.cell? ⟨g, 2, none⟩ = some c2 ∧ w.cell? ⟨g, 3, none⟩ = some c3 ∧ w.cell? ⟨g, 4, none⟩ = some c4 ∧ w.cell? ⟨g, 5, none⟩ = some c5 ∧ w.cell? ⟨g, 6, none⟩ = some c6 ∧ w.cell? ⟨g, 7, none⟩ = some c7 ∧ w.cell? ⟨g, 8, none⟩ = some c8 ∧ w.cell? ⟨g, 9, none⟩ = some c9 ∧ w.cell? ⟨g, 10, none⟩ = some c10 ∧ w.cell? ⟨g, 11, none⟩ = some c11 ∧ w.cell? ⟨g, 12, none⟩ = some c12 ∧ w.cell? ⟨g, 13, none⟩ = some c13 ∧ w.cell? ⟨g, 14, none⟩ = some c14 ∧ w.cell? ⟨g, 15, none⟩ = some c15 ∧ w.cell? ⟨g, 16, none⟩ = some c16) ∧
    (w.frozen? ⟨g, 0, none⟩ = false ∧ w.frozen? ⟨g, 1, none⟩ = false ∧ w.frozen? ⟨g, 2, none⟩ = false ∧ w.frozen? ⟨g, 3, none⟩ = false ∧ w.frozen? ⟨g, 4, none⟩ = false ∧ w.frozen? ⟨g, 5, none⟩ = false ∧ w.frozen? ⟨g, 6, none⟩ = false ∧ w.frozen? ⟨g, 7, none⟩ = false ∧ w.frozen? ⟨g, 8, none⟩ = false ∧ w.frozen? ⟨g, 9, none⟩ = false ∧ w.frozen? ⟨g, 10, none⟩ = false ∧ w.frozen? ⟨g, 11, none⟩ = false ∧ w.frozen? ⟨g, 12, none⟩ = false ∧ w.frozen? ⟨g, 13, none⟩ = false ∧ w.frozen? ⟨g, 14, none⟩ = false ∧ w.frozen? ⟨g, 15, none⟩ = false ∧ w.frozen? ⟨g, 16, none⟩ = false) :=
  ⟨⟨blk_cell h 0, blk_cell h 1, blk_cell h 2, blk_cell h 3, blk_cell h 4, blk_cell h 5, blk_cell h 6, blk_cell h 7, blk_cell h 8, blk_cell h 9, blk_cell h 10, blk_cell h 11, blk_cell h 12, blk_cell h 13, blk_cell h 14, blk_cell h 15, blk_cell h 16⟩,
   ⟨blk_frozen h 0, blk_frozen h 1, blk_frozen h 2, blk_frozen h 3, blk_frozen h 4, blk_frozen h 5, blk_frozen h 6, blk_frozen h 7, blk_frozen h 8, blk_frozen h 9, blk_frozen h 10, blk_frozen h 11, blk_frozen h 12, blk_frozen h 13, blk_frozen h 14, blk_frozen h 15, blk_frozen h 16⟩⟩
end Go.Proofs.YtndobphgeiamhaaGreatDoor.H
