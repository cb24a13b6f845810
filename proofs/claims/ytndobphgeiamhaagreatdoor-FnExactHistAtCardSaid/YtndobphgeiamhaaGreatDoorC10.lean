/- Texts of this claim, joined: HEntU. Conditions: each theorem's own. -/
import Derived.Test.YtndobphgeiamhaaGreatDoorA01
import Derived.Test.YtndobphgeiamhaaGreatDoorA02
import Derived.Test.YtndobphgeiamhaaGreatDoorA03
import Derived.Test.YtndobphgeiamhaaGreatDoorA04
import Derived.Test.YtndobphgeiamhaaGreatDoorA05
import Derived.Test.YtndobphgeiamhaaGreatDoorA06
import Derived.Test.YtndobphgeiamhaaGreatDoorA07
import Derived.Test.YtndobphgeiamhaaGreatDoorA08
import Derived.Test.YtndobphgeiamhaaGreatDoorA09
import Derived.Test.YtndobphgeiamhaaGreatDoorA10
import Derived.Test.YtndobphgeiamhaaGreatDoorA11
import Derived.Test.YtndobphgeiamhaaGreatDoorA12
import Derived.Test.YtndobphgeiamhaaGreatDoorA13
import Derived.Test.YtndobphgeiamhaaGreatDoorA14
import Derived.Test.YtndobphgeiamhaaGreatDoorA15
import Derived.Test.YtndobphgeiamhaaGreatDoorA16
import Derived.Test.YtndobphgeiamhaaGreatDoorA17
import Derived.Below
import Derived.Deep.Draws
import Derived.Deep.AppendLies
import Derived.Maps.AppendAt
import Derived.OwnWalk
import Derived.Laws.BytesArg
import Derived.Laws.MakeOwn
import Derived.Laws.OwnMore
import Derived.Deep.OwnRows
import Derived.Tactics
import Derived.Lib.ConvBytes
import Derived.Laws.Slices
import Derived.WalkKit
import Derived.KernelRfl
import Derived.RowKit3
import Derived.Deep.LoopGhost
import Derived.Deep.QuietTactic
import Derived.BigQuiet
import Derived.WideLaws
import Derived.Deep.DeepCutAuto
import Derived.Deep.CutBlock
import Derived.Deep.RegionHeld3
import Derived.Laws.Rows
import Derived.Lib.AppendStr
import Derived.ArgAppend
import Derived.Laws.IdiomCopy
import Derived.RowKit
import Derived.OrdersHeld
import Derived.Laws.BitsLemmas
import Derived.Lib.Strings
import Derived.Lib.SmallJoins
import Derived.Lib.LaidTab
import Derived.Lib.ItoaNum
import Derived.SizedLaws
import Derived.Handed
import Derived.LaidMore
import Derived.Stop.Joined
import Derived.Lib.Slices
import Derived.Lib.Walk
import Derived.Lib.Builder
import Derived.Lib.UnsafeStr
import Derived.Lib.MakeNoZero
import Derived.Laws.Externs
import Derived.Shelf.RegionOpenPlain
import Derived.Lib.Split
import Derived.Lib.Replace
import Derived.Lib.ReplaceLaws
import Derived.Lib.IndexLaws
import Derived.Lib.IndexMore
import Derived.Lib.CountLaws
import Derived.Shelf.Strings.Builder1
import Derived.Shelf.Strings.Builder2
import Derived.Shelf.Strings.OnBuilder
import Derived.Shelf.Small.Utf8
import Derived.Shelf.Small.Strs
import Derived.Shelf.Strconv.Itoa0
import Derived.Shelf.Strconv.Itoa1
import Derived.Shelf.LaysM
import Derived.Shelf.Strconv.Itoa2
import Derived.Shelf.Strconv.Itoa3
import Derived.Shelf.Strings.Search1
import Derived.Shelf.Strings.Search2
import Derived.Shelf.Strings.Search3
import Derived.Shelf.Strings.Cut
import Derived.Shelf.Strings.Count
import Derived.Shelf.Strings.Shaped
import Derived.Shelf.Strings.LastIndex
import Derived.Shelf.Strings.Prefix
import Derived.Shelf.Strings.Split
import Derived.Shelf.Strings.Replace
import Derived.Shelf.Strings.Runes
import Derived.Shelf.Strings.IndexAny
import Derived.Shelf.Strings.AsciiSet
import Derived.Shelf.Strings.IndexAnyAll
import Derived.Shelf.Unicode.DecodeSlow
import Derived.Shelf.Slices.Turned
import Derived.Ground.Names2Prog
import Derived.Shelf.Slices.Clone
import Derived.Lib.SplitLaws
import Derived.Lib.Hide
import Derived.Laws.AppendOwn
import Derived.Outline
import Derived.Sort.Grow
import Derived.Laws.StructEq
import Derived.StillTailTactics
import Derived.Deep.RegionWith
import Derived.Lib.Bytealg
import Derived.WalkSmall
import Derived.Lib.IndexAny
import Derived.Lib.LastIndexByte
import Derived.Laws.RangeString
import Derived.Laws.Strings3
import Derived.WalkMore
import Derived.WalkSpells
import Derived.Deep.Strs
import Derived.SliceStrings
import Derived.ChangeArms
import Derived.OpenShut
import Derived.Test.YtndobphgeiamhaaGreatDoorC01
import Derived.Test.YtndobphgeiamhaaGreatDoorC02
set_option linter.unusedVariables false
namespace Go.Proofs.YtndobphgeiamhaaGreatDoor.H
open Go.RowKit Go.Proofs.YtndobphgeiamhaaGreatDoorW.PrintWords Go.Proofs.YtndobphgeiamhaaGreatDoor.Base Go.Proofs.YtndobphgeiamhaaGreatDoor.Pure
theorem setL_eq : ∀ (vs : List Value) (cur : Array Value) (o : Nat), o + vs.length ≤ cur.size → setL cur o vs = (cur.toList.take o ++ vs ++ cur.toList.drop (o + vs.length)).toArray
  | [], cur, o, _ => by simp [setL]
  | v :: s, cur, o, h => by
    have hl : o < cur.toList.length := by simp at h ⊢; omega
    rw [setL, setL_eq s _ _ (by simp at h ⊢; omega)]
    have e1 : (cur.toList.set o v).take (o + 1) = cur.toList.take o ++ [v] := by
      rw [List.take_succ_eq_append_getElem (by simpa using hl), List.take_set_of_le (Nat.le_refl o)]; simp
    have e2 : (cur.toList.set o v).drop (o + 1 + s.length) = cur.toList.drop (o + (s.length + 1)) := by
      rw [List.drop_set_of_lt (by omega)]; congr 1; omega
    rw [Array.toList_setIfInBounds, e1, e2]
    simp
theorem putL_lit {t : TypeId} {g : Nat} (vs : List Value) (w : World) (o : Nat) (cur : Array Value) (h : w.heap[g]? = some (.cells cur t (0, 0))) (hs : o + vs.length ≤ cur.size) : (putL w g o vs).heap[g]? = some (.cells (cur.toList.take o ++ vs ++ cur.toList.drop (o + vs.length)).toArray t (0, 0)) := by
  rw [← setL_eq vs cur o hs]; exact putL_heap vs w o cur h
set_option maxHeartbeats 4000000 in
set_option maxRecDepth 100000 in
theorem toEntry_walk (x : En) (pv : Value) (w : World) (hP : PathAt w pv x.u.path) (hm : x.u.path.length ≤ 1048576) :
    Calls Tryz.prog 45 #[.agg (eCells x pv)] w fun e w' => ∃ qv, e = .returned (.agg (eCells x qv)) ∧ QRow w' w.heap.size 9 1 qv x.u.path.length (strV x.u.path) ∧ Below w.heap.size w w' := by
  have HTO := Lib.hid fun w1 (hb : Below w.heap.size w w1) => toUrlQ_walk x.u pv w1 (hP.below hb) hm
  obtain ⟨step, ⟨sch, usr, pas, hk, hn, ha, port, path, opq, hq, qry, hf, frg⟩, doc, key, st⟩ := x
  unfold eCells at *
  unfold uCells at *
  dsimp only at *
  go_enter Tryz.func45, Tryz.ntmps45
  go_wp2_with fail
  obtain ⟨K1, K2, K3, HB⟩ := three_new w (.cells #[.int .i64 step, .string (B sch), .string (B usr), .string (B pas), .int .i64 hk, .string (B hn), .int .i64 ha, .int .i64 port, pv, .string (B opq), .bool hq, .string (B qry), .bool hf, .string (B frg), .int .i64 doc, .int .i64 key, .string (B st)] 60) (.cells #[.int .i64 0, .string ⟨#[]⟩, .string ⟨#[]⟩, .string ⟨#[]⟩, .int .i64 0, .string ⟨#[]⟩, .int .i64 0, .int .i64 0, .slice none 0 0, .string ⟨#[]⟩, .bool false, .string ⟨#[]⟩, .bool false, .string ⟨#[]⟩, .int .i64 0, .int .i64 0, .string ⟨#[]⟩] 63) (.cells #[.int .i64 step, .string ⟨#[]⟩, .string ⟨#[]⟩, .string ⟨#[]⟩, .int .i64 0, .string ⟨#[]⟩, .int .i64 0, .int .i64 0, .slice none 0 0, .string ⟨#[]⟩, .bool false, .string ⟨#[]⟩, .bool false, .string ⟨#[]⟩, .int .i64 0, .int .i64 0, .string ⟨#[]⟩] 63)
  generalize ((w.alloc _).alloc _).alloc _ = w1 at K1 K2 K3 HB ⊢
  have n1 : w.heap.size ≠ w.heap.size + 1 + 1 := by omega
  have n2 : w.heap.size + 1 ≠ w.heap.size + 1 + 1 := by omega
  have ge2 : w.heap.size ≤ w.heap.size + 1 := by omega
  have ge3 : w.heap.size ≤ w.heap.size + 1 + 1 := by omega
  generalize w.heap.size + 1 + 1 = g3 at K3 n1 n2 ge3 ⊢
  generalize w.heap.size + 1 = g2 at K2 n2 ge2 ⊢
  refine (HTO.out _ HB).mono ?_
  rintro e w2 ⟨qv, rfl, hq2, hb2⟩
  have lt3 : g3 < w1.heap.size := blk_lt K3
  have lt2 : g2 < w1.heap.size := blk_lt K2
  have hlow := HB.size
  have K12 := blk_below K1 hb2
  have K22 := blk_below K2 hb2
  have K32 := blk_below K3 hb2
  have HB2 := below_then HB HB.size hb2
  clear K1 K2 K3 HB hb2
  obtain ⟨A2, c2, rfl, _⟩ := q_slice hq2
  have kc1 := (cells17 K12).1
  have kc3 := cells17 K32
  go_upto_region 7 with fail
  generalize hw0 : World.setCell _ _ _ = w3
  obtain ⟨vs, hvs⟩ : ∃ vs : List Value, vs = [.string (B sch), .string (B usr), .string (B pas), .int .i64 hk, .string (B hn), .int .i64 ha, .int .i64 port, .slice A2 path.length c2, .string (B opq), .bool hq, .string (B qry), .bool hf, .string (B frg), .int .i64 doc, .int .i64 key, .string (B st)] := ⟨_, rfl⟩
  have hw : putL w2 g3 1 vs = w3 := by rw [← hw0, hvs]; rfl
  have K33 : w3.heap[g3]? = some (.cells #[.int .i64 step, .string (B sch), .string (B usr), .string (B pas), .int .i64 hk, .string (B hn), .int .i64 ha, .int .i64 port, .slice A2 path.length c2, .string (B opq), .bool hq, .string (B qry), .bool hf, .string (B frg), .int .i64 doc, .int .i64 key, .string (B st)] 63 (0, 0)) := by
    have k := putL_lit (g := g3) vs w2 1 _ K32 (by rw [hvs]; exact Nat.le_refl 17)
    rw [hw, hvs] at k
    exact k
  have hG : w2.grownBy w3 (some g3) := by rw [← hw]; exact putL_grown (g := g3) vs w2 1 (grown_b (Below.refl _ w2))
  have HB3 : Below w.heap.size w w3 := by rw [← hw]; exact putL_below ge3 vs w2 1 HB2
  clear hw hw0 hvs
  have K23 := blk_grown K22 hG (by intro q; exact n2 (Option.some.inj q))
  have HQ3 := Lib.hid (q_grown hq2 hG lt3)
  have HB3 := Lib.hid HB3
  clear kc1 kc3 K12 K22 K32 HB2 hq2 hG
  have kc3 := (cells17 K33).1
  have kc2 := cells17 K23
  go_wp2
  generalize hw0 : World.setCell _ _ _ = w4
  obtain ⟨vs, hvs⟩ : ∃ vs : List Value, vs = [.int .i64 step, .string (B sch), .string (B usr), .string (B pas), .int .i64 hk, .string (B hn), .int .i64 ha, .int .i64 port, .slice A2 path.length c2, .string (B opq), .bool hq, .string (B qry), .bool hf, .string (B frg), .int .i64 doc, .int .i64 key, .string (B st)] := ⟨_, rfl⟩
  have hw : putL w3 g2 0 vs = w4 := by rw [← hw0, hvs]; rfl
  have K4 : w4.heap[g2]? = some (.cells #[.int .i64 step, .string (B sch), .string (B usr), .string (B pas), .int .i64 hk, .string (B hn), .int .i64 ha, .int .i64 port, .slice A2 path.length c2, .string (B opq), .bool hq, .string (B qry), .bool hf, .string (B frg), .int .i64 doc, .int .i64 key, .string (B st)] 63 (0, 0)) := by
    have k := putL_lit (g := g2) vs w3 0 _ K23 (by rw [hvs]; exact Nat.le_refl 17)
    rw [hw, hvs] at k
    exact k
  refine bodyPost_ret (results_cell_row rfl _ _ g2 63 _ (0, 0) _ rfl K4 Tryz.underlying63 rfl (by kernel_rfl)) rfl ⟨_, rfl, q_lower (q_grown HQ3.out ?_ lt2) hlow, ?_⟩
  · rw [← hw]; exact putL_grown (g := g2) vs w3 0 (grown_b (Below.refl _ w3))
  · rw [← hw]; exact putL_below ge2 vs w3 0 HB3.out
theorem place17 {w : World} {g k : Nat} {t : TypeId} {cur : Array Value} (h : w.heap[g]? = some (.cells cur t (0, 0))) (hk : k * 17 + 17 ≤ cur.size) : ∃ v0 v1 v2 v3 v4 v5 v6 v7 v8 v9 v10 v11 v12 v13 v14 v15 v16, (w.cell? ⟨g, k * 17, none⟩ = some v0 ∧ w.cell? ⟨g, k * 17 + 1, none⟩ = some v1 ∧ w.cell? ⟨g, k * 17 + 2, none⟩ = some v2 ∧ w.cell? ⟨g, k * 17 + 3, none⟩ = some v3 ∧ w.cell? ⟨g, k * 17 + 4, none⟩ = some v4 ∧ w.cell? ⟨g, k * 17 + 5, none⟩ = some v5 ∧ w.cell? ⟨g, k * 17 + 6, none⟩ = some v6 ∧ w.cell? ⟨g, k * 17 + 7, none⟩ = some v7 ∧ w.cell? ⟨g, k * 17 + 8, none⟩ = some v8 ∧ w.cell? ⟨g, k * 17 + 9, none⟩ = some v9 ∧ w.cell? ⟨g, k * 17 + 10, none⟩ = some v10 ∧ w.cell? ⟨g, k * 17 + 11, none⟩ = some v11 ∧ w.cell? ⟨g, k * 17 + 12, none⟩ = some v12 ∧ w.cell? ⟨g, k * 17 + 13, none⟩ = some v13 ∧ w.cell? ⟨g, k * 17 + 14, none⟩ = some v14 ∧ w.cell? ⟨g, k * 17 + 15, none⟩ = some v15 ∧ w.cell? ⟨g, k * 17 + 16, none⟩ = some v16) ∧ (w.frozen? ⟨g, k * 17, none⟩ = false ∧ w.frozen? ⟨g, k * 17 + 1, none⟩ = false ∧ w.frozen? ⟨g, k * 17 + 2, none⟩ = false ∧ w.frozen? ⟨g, k * 17 + 3, none⟩ = false ∧ w.frozen? ⟨g, k * 17 + 4, none⟩ = false ∧ w.frozen? ⟨g, k * 17 + 5, none⟩ = false ∧ w.frozen? ⟨g, k * 17 + 6, none⟩ = false ∧ w.frozen? ⟨g, k * 17 + 7, none⟩ = false ∧ w.frozen? ⟨g, k * 17 + 8, none⟩ = false ∧ w.frozen? ⟨g, k * 17 + 9, none⟩ = false ∧ w.frozen? ⟨g, k * 17 + 10, none⟩ = false ∧ w.frozen? ⟨g, k * 17 + 11, none⟩ = false ∧ w.frozen? ⟨g, k * 17 + 12, none⟩ = false ∧ w.frozen? ⟨g, k * 17 + 13, none⟩ = false ∧ w.frozen? ⟨g, k * 17 + 14, none⟩ = false ∧ w.frozen? ⟨g, k * 17 + 15, none⟩ = false ∧ w.frozen? ⟨g, k * 17 + 16, none⟩ = false) := by
  have f : ∀ j, j < 17 → ∃ v, w.cell? ⟨g, k * 17 + j, none⟩ = some v := fun j hj => ⟨cur[k * 17 + j]'(by omega), (blk_cell h _).trans (Array.getElem?_eq_getElem (by omega))⟩
  obtain ⟨v0, h0⟩ := f 0 (by omega)
  obtain ⟨v1, h1⟩ := f 1 (by omega)
  obtain ⟨v2, h2⟩ := f 2 (by omega)
  obtain ⟨v3, h3⟩ := f 3 (by omega)
  obtain ⟨v4, h4⟩ := f 4 (by omega)
  obtain ⟨v5, h5⟩ := f 5 (by omega)
  obtain ⟨v6, h6⟩ := f 6 (by omega)
  obtain ⟨v7, h7⟩ := f 7 (by omega)
  obtain ⟨v8, h8⟩ := f 8 (by omega)
  obtain ⟨v9, h9⟩ := f 9 (by omega)
  obtain ⟨v10, h10⟩ := f 10 (by omega)
  obtain ⟨v11, h11⟩ := f 11 (by omega)
  obtain ⟨v12, h12⟩ := f 12 (by omega)
  obtain ⟨v13, h13⟩ := f 13 (by omega)
  obtain ⟨v14, h14⟩ := f 14 (by omega)
  obtain ⟨v15, h15⟩ := f 15 (by omega)
  obtain ⟨v16, h16⟩ := f 16 (by omega)
  exact ⟨v0, v1, v2, v3, v4, v5, v6, v7, v8, v9, v10, v11, v12, v13, v14, v15, v16, ⟨h0, h1, h2, h3, h4, h5, h6, h7, h8, h9, h10, h11, h12, h13, h14, h15, h16⟩, ⟨blk_frozen h _, blk_frozen h _, blk_frozen h _, blk_frozen h _, blk_frozen h _, blk_frozen h _, blk_frozen h _, blk_frozen h _, blk_frozen h _, blk_frozen h _, blk_frozen h _, blk_frozen h _, blk_frozen h _, blk_frozen h _, blk_frozen h _, blk_frozen h _, blk_frozen h _⟩⟩
theorem make_entries (n : Nat) (hn : n ≤ 1048576) (w : World) : (Instr.makeSlice 42 (.int .i64 (n : Int)) (.int .i64 (n : Int))).run Tryz.prog w = .ok (.slice (some ⟨w.heap.size, 0, none⟩) n n) (w.alloc (.cells (madeCells #[.int .i64 0, .string ByteArray.empty, .string ByteArray.empty, .string ByteArray.empty, .int .i64 0, .string ByteArray.empty, .int .i64 0, .int .i64 0, .slice none 0 0, .string ByteArray.empty, .bool false, .string ByteArray.empty, .bool false, .string ByteArray.empty, .int .i64 0, .int .i64 0, .string ByteArray.empty] (n * 17)) 63)) := by
  have hinfo : (Tryz.prog.info? 63).map (fun i => (i.zero, i.size, i.bytes)) = some (some (.agg #[.int .i64 0, .string ByteArray.empty, .string ByteArray.empty, .string ByteArray.empty, .int .i64 0, .string ByteArray.empty, .int .i64 0, .int .i64 0, .slice none 0 0, .string ByteArray.empty, .bool false, .string ByteArray.empty, .bool false, .string ByteArray.empty, .int .i64 0, .int .i64 0, .string ByteArray.empty]), 17, 216) := by kernel_rfl
  obtain ⟨i, hi, hzz⟩ := Option.map_eq_some_iff.1 hinfo
  simp only [Prod.mk.injEq] at hzz
  obtain ⟨hz, hs, hb⟩ := hzz
  have h := run_make (P := Tryz.prog) w 42 63 i _ Tryz.underlying42 hi hz .i64 .i64 n n (by omega) (by omega) (by rw [hb]; omega) (by omega)
  rw [hs] at h
  exact h
def updV (f : Nat → Value) (k : Nat) (v : Value) (j : Nat) : Value := if j = k then v else f j
theorem updV_same (f : Nat → Value) (k : Nat) (v : Value) : updV f k v k = v := if_pos rfl
theorem updV_ne (f : Nat → Value) (k : Nat) (v : Value) (j : Nat) (h : j ≠ k) : updV f k v j = f j := if_neg h
theorem add0 (g m : Nat) : (⟨g, 0, none⟩ : Addr).add m = ⟨g, m, none⟩ := by unfold Addr.add; split <;> simp_all
set_option maxHeartbeats 4000000 in
set_option maxRecDepth 100000 in
theorem toEntryS_walk (v : Value) (es : List En) (w : World) (hR : RowE w v es) (hm : ∀ x ∈ es, x.u.path.length ≤ 1048576) (hn : es.length ≤ 1048576) :
    Calls Tryz.prog 21 #[v] w fun e w' => ∃ v', e = .returned v' ∧ RowE w' v' es ∧ Below w.heap.size w w' := by
  have HA := Lib.hid hR
  obtain ⟨A, c, rfl, hc, _⟩ := hR
  have HTE := Lib.hid fun (k : Nat) (h : k < es.length) pv w1 (hP : PathAt w1 pv (es[k]).u.path) => toEntry_walk es[k] pv w1 hP (hm _ (List.getElem_mem h))
  clear hm
  have hmk := make_entries es.length hn
  have h0 := blk_new w (.cells (madeCells #[.int .i64 0, .string ByteArray.empty, .string ByteArray.empty, .string ByteArray.empty, .int .i64 0, .string ByteArray.empty, .int .i64 0, .int .i64 0, .slice none 0 0, .string ByteArray.empty, .bool false, .string ByteArray.empty, .bool false, .string ByteArray.empty, .int .i64 0, .int .i64 0, .string ByteArray.empty] (es.length * 17)) 63)
  have hs0 := size_madeCells #[.int .i64 0, .string ByteArray.empty, .string ByteArray.empty, .string ByteArray.empty, .int .i64 0, .string ByteArray.empty, .int .i64 0, .int .i64 0, .slice none 0 0, .string ByteArray.empty, .bool false, .string ByteArray.empty, .bool false, .string ByteArray.empty, .int .i64 0, .int .i64 0, .string ByteArray.empty] (es.length * 17)
  have hb0 := (Below.refl w.heap.size w).alloc (Nat.le_refl _) (.cells (madeCells #[.int .i64 0, .string ByteArray.empty, .string ByteArray.empty, .string ByteArray.empty, .int .i64 0, .string ByteArray.empty, .int .i64 0, .int .i64 0, .slice none 0 0, .string ByteArray.empty, .bool false, .string ByteArray.empty, .bool false, .string ByteArray.empty, .int .i64 0, .int .i64 0, .string ByteArray.empty] (es.length * 17)) 63)
  go_enter Tryz.func21, Tryz.ntmps21
  go_upto_block 0 with fail
  clear hmk
  generalize w.alloc _ = w1 at h0 hb0 ⊢
  generalize madeCells _ (es.length * 17) = cur0 at h0 hs0
  go_wp2
  go_loopw [4] (fun i wr => ∃ (k : Nat) (cur : Array Value) (pvs : Nat → Value), k ≤ es.length ∧ i = .int .i64 k ∧ wr.heap[w.heap.size]? = some (.cells cur 63 (0, 0)) ∧ cur.size = es.length * 17 ∧ (∀ j (h : j < es.length), j < k → QRow wr (w.heap.size + 1) 9 1 (pvs j) (es[j]).u.path.length (strV (es[j]).u.path) ∧ ∀ m x, (eCells es[j] (pvs j))[m]? = some x → cur[j * 17 + m]? = some x) ∧ Below w.heap.size w wr) (fun i _ => es.length - (intOf i).toNat)
  case atStart => exact ⟨0, cur0, fun _ => undef, by omega, rfl, h0, hs0, fun j _ h => absurd h (by omega), hb0⟩
  case round =>
    obtain ⟨k, cur, pvs, hk, rfl, hh, hcs, hc2, hb⟩ := hrel
    by_cases hlt : k < es.length
    · obtain ⟨ad, pv, e0, hpv, hcell⟩ := (HA.out.below hb).at k hlt
      subst e0
      have i1 : ((k : Int) < (es.length : Int)) := by omega
      have it : ((k : Int)).toNat = k := rfl
      have HC := Lib.hid (HTE.out k hlt pv wr hpv)
      have HC2 := Lib.hid hc2
      have HX : ∃ x, Hid (x = es[k]) := ⟨_, Lib.hid rfl⟩
      obtain ⟨x, HX⟩ := HX
      rw [← HX.out] at hcell HC
      clear hc2 hpv
      unfold eCells C17 at hcell
      unfold eCells at HC
      go_wp2_with fail
      refine HC.out.mono ?_
      rintro e w2 ⟨qv, rfl, hq, hb2⟩
      obtain ⟨A2, c2, rfl, _⟩ := q_slice hq
      have hh2 := blk_below hh hb2
      have HB2 := below_then hb hb.size hb2
      have hgw : w.heap.size < wr.heap.size := blk_lt hh
      have HQ := Lib.hid (q_lower hq hgw)
      have HC3 : Hid (∀ j (h : j < es.length), j < k → QRow w2 (w.heap.size + 1) 9 1 (pvs j) (es[j]).u.path.length (strV (es[j]).u.path)) := Lib.hid fun j h hj => q_below (HC2.out j h hj).1 hb2
      obtain ⟨v0, v1, v2, v3, v4, v5, v6, v7, v8, v9, v10, v11, v12, v13, v14, v15, v16, kc, kf⟩ := place17 (k := k) hh2 (by omega)
      have HB3 := Lib.hid HB2
      clear hcell hh hb hq hb2 HB2
      go_wp2
      go_roundw
      case rel =>
        refine ⟨k + 1, setL cur (k * 17) (eCells x (.slice A2 x.u.path.length c2)).toList, updV pvs k (.slice A2 x.u.path.length c2), by omega, by go_num, putL_heap (g := w.heap.size) (eCells x (.slice A2 x.u.path.length c2)).toList w2 (k * 17) _ hh2, by rw [setL_size]; exact hcs, fun j h hj => ?_, putL_below (Nat.le_refl _) (eCells x (.slice A2 x.u.path.length c2)).toList w2 (k * 17) HB3.out⟩
        have hgr := putL_grown (g := w.heap.size) (eCells x (.slice A2 x.u.path.length c2)).toList w2 (k * 17) (grown_b (Below.refl _ w2))
        by_cases q : j = k
        · subst q
          rw [updV_same, ← HX.out]
          refine ⟨q_grown HQ.out hgr (Nat.lt_succ_self _), fun m y hy => ?_⟩
          have hm17 : m < 17 := by
            have := (Array.getElem?_eq_some_iff.1 hy).1
            exact this
          rw [setL_new _ _ _ _ (by show j * 17 + 17 ≤ cur.size; omega) hm17, Array.getElem?_toList]
          exact hy
        · rw [updV_ne _ _ _ _ q]
          refine ⟨q_grown (HC3.out j h (by omega)) hgr (Nat.lt_succ_self _), fun m y hy => ?_⟩
          have hm17 : m < 17 := by
            have := (Array.getElem?_eq_some_iff.1 hy).1
            exact this
          rw [setL_old _ _ _ _ (by left; omega)]
          exact (HC2.out j h (by omega)).2 m y hy
      case measure => simp only [intOf]; omega
    · have hn : decide ((k : Int) < (es.length : Int)) = false := decide_eq_false (by omega)
      have HC2 := Lib.hid hc2
      have HH := Lib.hid hh
      clear hc2 hh
      go_wp2
      go_ret
      refine ⟨_, rfl, ⟨_, _, rfl, Nat.le_refl _, fun j hj => ?_⟩, hb⟩
      obtain ⟨h1, h2⟩ := HC2.out j hj (by omega)
      exact ⟨_, pvs j, rfl, pathAt_q h1, fun m y hy => by rw [add0, blk_cell HH.out]; exact h2 m y hy⟩
end Go.Proofs.YtndobphgeiamhaaGreatDoor.H
