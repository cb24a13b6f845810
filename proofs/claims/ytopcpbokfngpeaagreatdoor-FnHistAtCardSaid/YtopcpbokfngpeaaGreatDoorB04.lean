/- Texts of this claim, joined: Lfx1, HImp, HLib, Lpx0. Conditions: each theorem's own. -/
import Derived.Test.YtopcpbokfngpeaaGreatDoorB02
import Derived.Test.YtopcpbokfngpeaaGreatDoorB03
import Derived.Test.YtopcpbokfngpeaaGreatDoorProg
import Derived.Tactics
import Derived.KernelRfl
import Derived.RowKit3
import Derived.Deep.LoopGhost
import Derived.Laws.Slices
import Derived.Laws.Rows
import Derived.Laws.BitsLemmas
import Derived.RowKit
import Derived.Outline
import Derived.Lib.Hide
import Derived.Deep.QuietTactic
import Derived.BigQuiet
import Derived.StillTailTactics
import Derived.Deep.RegionWith
import Derived.Lib.Bytealg
import Derived.Lib.SplitLaws
import Derived.Lib.IndexLaws
import Derived.Lib.IndexMore
import Derived.Laws.AppendOwn
import Derived.Lib.SmallJoins
import Derived.Sort.Grow
import Derived.Below
import Derived.Deep.Draws
import Derived.Deep.AppendLies
import Derived.Maps.AppendAt
import Derived.OwnWalk
import Derived.Laws.BytesArg
import Derived.Laws.MakeOwn
import Derived.Laws.OwnMore
import Derived.Deep.OwnRows
import Derived.Lib.ConvBytes
import Derived.WalkKit
import Derived.WideLaws
import Derived.Deep.DeepCutAuto
import Derived.Deep.CutBlock
import Derived.Deep.RegionHeld3
import Derived.Lib.AppendStr
import Derived.ArgAppend
import Derived.Laws.IdiomCopy
import Derived.OrdersHeld
import Derived.Test.YtopcpbokfngpeaaGreatDoorB01
set_option maxHeartbeats 8000000
set_option maxRecDepth 100000
namespace Go.Proofs.YtopcpbokfngpeaaGreatDoor.Lf
open Go.RowKit Go.Proofs.YtopcpbokfngpeaaGreatDoor.H Go.Proofs.YtopcpbokfngpeaaGreatDoorW.PrintWords Go.Proofs.YtopcpbokfngpeaaGreatDoorW.PrintLast Go.Proofs.YtopcpbokfngpeaaGreatDoorW.PrintMore
attribute [local go_sem] max2_int min2_int max_two min_two max_three min_three max_four min_four   -- for this text's walks alone
set_option linter.unusedVariables false
set_option linter.unusedSimpArgs false
def impl_percent.f (a0 : Int) : Option (ByteArray) := if 0 ≤ (a0 / 16) then (if (a0 / 16) < 16 then (if 0 ≤ (Go.bits .and .u8 a0 15) then (if (Go.bits .and .u8 a0 15) < 16 then (some (strOfNums (([37, bt (⟨#[48, 49, 50, 51, 52, 53, 54, 55, 56, 57, 65, 66, 67, 68, 69, 70]⟩ : ByteArray) (a0 / 16), bt (⟨#[48, 49, 50, 51, 52, 53, 54, 55, 56, 57, 65, 66, 67, 68, 69, 70]⟩ : ByteArray) (Go.bits .and .u8 a0 15)] : List Int)))) else (none)) else (none)) else (none)) else (none)
def impl_percent.T1 : Bool × List (List Nat × List Nat) := (true, [([], []), ([0], [0]), ([1], [1]), ([], []), ([3], [3]), ([4], [4]), ([2, 5], [2, 5]), ([6], [6]), ([7, 0, 1, 2, 3, 4, 5, 6, 7], [7])])
def impl_percent.B1 : List Nat := [0, 1, 3, 0, 8, 24, 63, 127, 255]
theorem impl_percent.tab1 : rtab .any (opsOf Tryz.f129 1) = impl_percent.T1 := by kernel_rfl
theorem impl_percent.bits1 : waitsOk impl_percent.T1.2 impl_percent.B1 = true := by kernel_rfl
theorem impl_percent.calls (a0 : Int) (r : ByteArray) (w : World) (h : impl_percent.f a0 = some r) :
  Calls Tryz.prog 129 #[.int .u8 a0] w fun e w' => e = .returned (.string r) ∧ Below w.heap.size w w' := by
 have HB := Aside0.mk (Below.refl w.heap.size w); unfold impl_percent.f at h; revert h; intro H; obtain ⟨ji2, hji2⟩ : ∃ j_ : Int, (a0 / 16) = j_ := ⟨_, rfl⟩; (first | rw [hji2] at H | simp only [hji2] at H); revert H; refine iDnq fun c3b0 => ?_; refine iDnq fun c4b0 => ?_; refine iDnq fun c6b0 => ?_; refine iDnq fun c7b0 => ?_; intro H; obtain ⟨y101, hy101⟩ : ∃ y_ : List Int, y_ = (([37, bt (⟨#[48, 49, 50, 51, 52, 53, 54, 55, 56, 57, 65, 66, 67, 68, 69, 70]⟩ : ByteArray) (ji2), bt (⟨#[48, 49, 50, 51, 52, 53, 54, 55, 56, 57, 65, 66, 67, 68, 69, 70]⟩ : ByteArray) (Go.bits .and .u8 a0 15)] : List Int)) := ⟨_, rfl⟩; replace H : (some (strOfNums y101)) = some r := by first | (rw [hy101]; with_reducible exact H) | (have H2_ := (Option.bind_some _ _).symm.trans H; rw [hy101]; with_reducible exact H2_) | (have H2_ := (Option.bind_some _ _).symm.trans H; with_reducible exact H2_) | with_reducible exact H | (rw [hy101]; exact H) | exact H
 have Ny101 := Aside0.mk hy101; clear hy101; obtain rfl := Option.some.inj H; go_enter Tryz.func129, Tryz.ntmps129; try go_wp2
 replace HB := Aside0.mk (below_drew1 HB.out); have p5 : 0 ≤ ((ji2) : Int) := of_decide_eq_true (by assumption); have q5 : (ji2) < (16 : Int) := of_decide_eq_true (by assumption); have hx5 := bt_at (⟨#[48, 49, 50, 51, 52, 53, 54, 55, 56, 57, 65, 66, 67, 68, 69, 70]⟩ : ByteArray) (ji2); replace p5 := eq_true p5; replace q5 := eq_true q5; have p8 : 0 ≤ ((Go.bits .and .u8 a0 15) : Int) := of_decide_eq_true (by assumption); have q8 : (Go.bits .and .u8 a0 15) < (16 : Int) := of_decide_eq_true (by assumption); have hx8 := bt_at (⟨#[48, 49, 50, 51, 52, 53, 54, 55, 56, 57, 65, 66, 67, 68, 69, 70]⟩ : ByteArray) (Go.bits .and .u8 a0 15); replace p8 := eq_true p8; replace q8 := eq_true q8; refine start_ (n := 9) (S := fun w' => True) (ds := []) #[false,false,false,false,false,false,false,false,false] (by kernel_rfl) rfl rfl trivial (fun hHeld => ?_); refine with_tabW impl_percent.tab1 impl_percent.bits1 (fun HT_ HW_ => ?_); generalize w.drew = w9 at HB hHeld ⊢; refine pure_ (i := 0) (N := some 3) (v := ?_) (a' := ?_) #[true,false,false,false,false,false,false,false,false] rfl rfl (any_of HT_.out (by kernel_rfl)) (fun _ _ _ h => h) (Or.inl ⟨by rfl, ?_⟩) ?_ ?_; rotate_left
 ·intro w'; go_simp; with_reducible rfl
 rotate_left
 ·simp only [Act.put, List.setIfInBounds_toArray, List.set_cons_zero, List.set_cons_succ, i64_w, i32_w]; rfl
 refine pure_ (i := 1) (N := some 4) (v := ?_) (a' := ?_) #[true,true,false,false,false,false,false,false,false] rfl rfl (any_of HT_.out (by kernel_rfl)) (fun _ _ _ h => h) (Or.inl ⟨by rfl, ?_⟩) ?_ ?_; rotate_left
 ·intro w'; go_simp; with_reducible rfl
 rotate_left
 ·simp only [Act.put, List.setIfInBounds_toArray, List.set_cons_zero, List.set_cons_succ, i64_w, i32_w]; rfl
 refine pure_ (i := 3) (N := some 6) (v := ?_) (a' := ?_) #[true,true,false,true,false,false,false,false,false] rfl rfl (any_of HT_.out (by kernel_rfl)) (fun _ _ _ h => h) (Or.inl ⟨by rfl, ?_⟩) ?_ ?_; rotate_left
 ·intro w'; go_simp; with_reducible rfl
 rotate_left
 ·simp only [Act.put, List.setIfInBounds_toArray, List.set_cons_zero, List.set_cons_succ, i64_w, i32_w]; rfl
 refine pure_ (i := 4) (N := some 7) (v := ?_) (a' := ?_) #[true,true,false,true,true,false,false,false,false] rfl rfl (any_of HT_.out (by kernel_rfl)) (fun _ _ _ h => h) (Or.inl ⟨by rfl, ?_⟩) ?_ ?_; rotate_left
 ·intro w'; go_simp; with_reducible rfl
 rotate_left
 ·simp only [Act.put, List.setIfInBounds_toArray, List.set_cons_zero, List.set_cons_succ, i64_w, i32_w]; rfl
 refine take_ (i := 2) (N := some 5) (v := ?_) (a' := ?_) #[true,true,true,true,true,false,false,false,false] rfl rfl (take_ofW HT_.out HW_.out (by kernel_rfl)) (fun _ _ _ h => h) (Or.inl ⟨by rfl, ?_⟩) hHeld ?_ ?_; rotate_left
 ·intro w' _; go_simp; with_reducible rfl
 rotate_left
 ·simp only [Act.put, List.setIfInBounds_toArray, List.set_cons_zero, List.set_cons_succ, i64_w, i32_w]; rfl
 refine take_ (i := 5) (N := some 8) (v := ?_) (a' := ?_) #[true,true,true,true,true,true,false,false,false] rfl rfl (take_ofW HT_.out HW_.out (by kernel_rfl)) (fun _ _ _ h => h) (Or.inl ⟨by rfl, ?_⟩) hHeld ?_ ?_; rotate_left
 ·intro w' _; go_simp; with_reducible rfl
 rotate_left
 ·simp only [Act.put, List.setIfInBounds_toArray, List.set_cons_zero, List.set_cons_succ, i64_w, i32_w]; rfl
 refine one_ (i := 6) (N := some 9) #[true,true,true,true,true,true,true,false,false] rfl rfl (one_of HT_.out (by kernel_rfl)) (by decide) (fun K hK => ?_); refine Kd.R_lit_step (Kd.int .u8) _ 5 ?hg (N := 9) ?hd (xs := ([37, bt (⟨#[48, 49, 50, 51, 52, 53, 54, 55, 56, 57, 65, 66, 67, 68, 69, 70]⟩ : ByteArray) (ji2), bt (⟨#[48, 49, 50, 51, 52, 53, 54, 55, 56, 57, 65, 66, 67, 68, 69, 70]⟩ : ByteArray) (Go.bits .and .u8 a0 15)] : List Int)) (inner := [.int .u8 37, .int .u8 (bt (⟨#[48, 49, 50, 51, 52, 53, 54, 55, 56, 57, 65, 66, 67, 68, 69, 70]⟩ : ByteArray) (ji2)), .int .u8 (bt (⟨#[48, 49, 50, 51, 52, 53, 54, 55, 56, 57, 65, 66, 67, 68, 69, 70]⟩ : ByteArray) (Go.bits .and .u8 a0 15))]) (ok := fun _ => True) (okp := fun _ => True) ?hr ?hp (fun _ hk => hk) trivial (Below.refl _ _) (Nat.le_refl _) (by simp) ?_; (case hd => rfl); (case hg => rfl); (case hr => first | (go_simp; done) | (go_simp; rfl)); (case hp => exact (Reps.one (show Kd.M (Kd.int .u8) _ _ _ 37 [.int .u8 37] from rfl) (Reps.one (show Kd.M (Kd.int .u8) _ _ _ (bt (⟨#[48, 49, 50, 51, 52, 53, 54, 55, 56, 57, 65, 66, 67, 68, 69, 70]⟩ : ByteArray) (ji2)) [.int .u8 (bt (⟨#[48, 49, 50, 51, 52, 53, 54, 55, 56, 57, 65, 66, 67, 68, 69, 70]⟩ : ByteArray) (ji2))] from rfl) (Reps.one (show Kd.M (Kd.int .u8) _ _ _ (bt (⟨#[48, 49, 50, 51, 52, 53, 54, 55, 56, 57, 65, 66, 67, 68, 69, 70]⟩ : ByteArray) (Go.bits .and .u8 a0 15)) [.int .u8 (bt (⟨#[48, 49, 50, 51, 52, 53, 54, 55, 56, 57, 65, 66, 67, 68, 69, 70]⟩ : ByteArray) (Go.bits .and .u8 a0 15))] from rfl) (Reps.none _ _))))); intro v102 w10 ho11 hb hg_ hnew_; clear hg_ hnew_; (first | rw [← Ny101.out] at ho11 | (simp only [Int.reduceToNat] at ho11; rw [← Ny101.out] at ho11)); have HO103 := rlq (w := w) ho11; replace HB := Aside0.mk (below_step bq hb); clear hb ho11; refine hK.out _ _ trivial (fun hHeld => ?_); clear hK K; refine norm_ (a' := ?_) ?_ ?_; rotate_left
 ·show Act.put _ (some 9) _ = _; simp only [Act.put, List.setIfInBounds_toArray, List.set_cons_zero, List.set_cons_succ, i64_w, i32_w]; rfl
 refine one_ (i := 7) (N := some 10) #[true,true,true,true,true,true,true,true,false] rfl rfl (one_of HT_.out (by kernel_rfl)) (by decide) (fun K hK => ?_); have hcv12 := own_string (P := Tryz.prog) Tryz.underlying22 Tryz.underlying5 Tryz.underlying9 (Kd.own_of_R HO103.out); refine value_ (w1 := ?_) (v := ?_) (by rfl) rfl ?_ ?_; rotate_left 2
 ·go_simp; constructor
  ·rfl
  ·rfl
 clear hcv12; refine hK.out _ _ trivial (fun hHeld => ?_); clear hK K; refine norm_ (a' := ?_) ?_ ?_; rotate_left
 ·show Act.put _ (some 10) _ = _; simp only [Act.put, List.setIfInBounds_toArray, List.set_cons_zero, List.set_cons_succ, i64_w, i32_w]; rfl
 refine pure_ (i := 8) (N := some 2) (v := ?_) (a' := ?_) #[true,true,true,true,true,true,true,true,true] rfl rfl (any_of HT_.out (by kernel_rfl)) (fun _ _ _ h => h) (Or.inl ⟨by rfl, ?_⟩) ?_ ?_; rotate_left
 ·intro w'; go_simp; with_reducible rfl
 rotate_left
 ·simp only [Act.put, List.setIfInBounds_toArray, List.set_cons_zero, List.set_cons_succ, i64_w, i32_w]; rfl
 refine done_ (done_of HT_.out (by kernel_rfl)) ?_; try go_wp2
 go_ret; exact ⟨by first | rfl | (simp [errW_none, errW_some] <;> rfl) | (simp only [← hji2]; first | rfl | (simp [errW_none, errW_some] <;> rfl)) | (simp [*, errW_none, errW_some] <;> rfl) | (simp [nen, een]; done), bq⟩
def impl_isLetter.f (a0 : Int) : Option (Bool) := if a0 ≥ 97 then (if a0 ≤ 122 then (some true) else (if a0 ≥ 65 then (some (decide (a0 ≤ 90))) else (some false))) else (if a0 ≥ 65 then (some (decide (a0 ≤ 90))) else (some false))
theorem impl_isLetter.calls (a0 : Int) (r : Bool) (w : World) (h : impl_isLetter.f a0 = some r) :
  Calls Tryz.prog 125 #[.int .u8 a0] w fun e w' => e = .returned (.bool r) ∧ Drawn0 w w' := by
 unfold impl_isLetter.f at h; revert h; refine iDq (fun c2b0 => ?_) fun c2b0 => ?_
 ·refine iDq (fun c3b0 => ?_) fun c3b0 => ?_
  ·refine siq ?_; rintro rfl; go_enter Tryz.func125, Tryz.ntmps125; go_wp2; go_ret; exact ⟨vq, dq⟩
  refine iDq (fun c4b0 => ?_) fun c4b0 => ?_
  ·refine siq ?_; rintro rfl; go_enter Tryz.func125, Tryz.ntmps125; go_wp2; go_ret; exact ⟨vq, dq⟩
  refine siq ?_; rintro rfl; go_enter Tryz.func125, Tryz.ntmps125; go_wp2; go_ret; exact ⟨vq, dq⟩
 refine iDq (fun c5b0 => ?_) fun c5b0 => ?_
 ·refine siq ?_; rintro rfl; go_enter Tryz.func125, Tryz.ntmps125; go_wp2; go_ret; exact ⟨vq, dq⟩
 refine siq ?_; rintro rfl; go_enter Tryz.func125, Tryz.ntmps125; go_wp2; go_ret; exact ⟨vq, dq⟩
def impl_isLetter.Pure : Prop := ∀ (a0 : Int), (Lit.int .u8 a0).wf = true → impl_isLetter.f a0 = some true
theorem impl_isLetter.walk (P : impl_isLetter.Pure) (a0 : Int) (w : World) (w0 : (Lit.int .u8 a0).wf = true) :
  Calls Tryz.prog 125 #[.int .u8 a0] w fun e w' => e = .returned (.bool true) ∧ Below w.heap.size w w' := by
 have h := P a0 w0
 refine (impl_isLetter.calls a0 true w h).mono ?_
 rintro e w' ⟨rfl, hd⟩
 exact ⟨rfl, hd.below⟩
def impl_isDigit.f (a0 : Int) : Option (Bool) := if a0 ≥ 48 then (some (decide (a0 ≤ 57))) else (some false)
theorem impl_isDigit.calls (a0 : Int) (r : Bool) (w : World) (h : impl_isDigit.f a0 = some r) :
  Calls Tryz.prog 119 #[.int .u8 a0] w fun e w' => e = .returned (.bool r) ∧ Drawn0 w w' := by
 unfold impl_isDigit.f at h; revert h; refine iDq (fun c2b0 => ?_) fun c2b0 => ?_
 ·refine siq ?_; rintro rfl; go_enter Tryz.func119, Tryz.ntmps119; go_wp2; go_ret; exact ⟨vq, dq⟩
 refine siq ?_; rintro rfl; go_enter Tryz.func119, Tryz.ntmps119; go_wp2; go_ret; exact ⟨vq, dq⟩
def impl_isDigit.Pure : Prop := ∀ (a0 : Int), (Lit.int .u8 a0).wf = true → impl_isDigit.f a0 = some true
theorem impl_isDigit.walk (P : impl_isDigit.Pure) (a0 : Int) (w : World) (w0 : (Lit.int .u8 a0).wf = true) :
  Calls Tryz.prog 119 #[.int .u8 a0] w fun e w' => e = .returned (.bool true) ∧ Below w.heap.size w w' := by
 have h := P a0 w0
 refine (impl_isDigit.calls a0 true w h).mono ?_
 rintro e w' ⟨rfl, hd⟩
 exact ⟨rfl, hd.below⟩
end Go.Proofs.YtopcpbokfngpeaaGreatDoor.Lf
/- impl.Lower: the call comes to the text with its capital letters made small, for every text of at most 2^47 bytes. · impl.PathPut: the call comes to each segment with a slash ahead, if that takes at most 2^47 bytes. · impl.hex and impl.Decode: the calls come to the figure's number, and to the decoded text ("" past 600 bytes), for every argument. · impl.percent, impl.isLetter, impl.isDigit, strings.IndexByte: what their calls come to, for every byte. · impl.encode: the call comes to the text with the set's bytes, and all that is not plain, told by percent; if that takes at most 2^47 bytes; impl.sets reads as its table. -/
namespace Go.Proofs.YtopcpbokfngpeaaGreatDoor.H
open Go.RowKit Go.Proofs.YtopcpbokfngpeaaGreatDoorW.PrintWords Go.Proofs.YtopcpbokfngpeaaGreatDoor.Base

def lowB (c : UInt8) : UInt8 := if 65 ≤ c.toNat ∧ c.toNat ≤ 90 then c + 32 else c
def lower (l : Bs) : Bs := l.map lowB
def lowK (l : Bs) (k : Nat) : Bs := (l.take k).map lowB ++ l.drop k
theorem lowK_length (l : Bs) (k : Nat) : (lowK l k).length = l.length := by simp [lowK]; omega
theorem lowK_zero (l : Bs) : lowK l 0 = l := by simp [lowK]
theorem lowK_all (l : Bs) (k : Nat) (h : l.length ≤ k) : lowK l k = lower l := by simp [lowK, lower, List.take_of_length_le h, List.drop_eq_nil_of_le h]
theorem lowK_get (l : Bs) (k : Nat) (h : k < l.length) (h' : k < (lowK l k).length) : (lowK l k)[k] = l[k] := by
 simp only [lowK]
 rw [List.getElem_append_right (by simp; omega)]
 simp [Nat.min_eq_left (Nat.le_of_lt h)]
theorem lowK_succ (l : Bs) (k : Nat) (h : k < l.length) : lowK l (k + 1) = (lowK l k).set k (lowB l[k]) := by
 have hm : ((l.take k).map lowB).length = k := by simp; omega
 simp only [lowK]
 rw [List.take_succ_eq_append_getElem h, List.map_append, List.set_append_right (h := by omega), hm, Nat.sub_self, List.drop_eq_getElem_cons h]
 simp only [List.map_cons, List.map_nil, List.append_assoc, List.singleton_append, List.set_cons_zero]
theorem lowK_same (l : Bs) (k : Nat) (h : k < l.length) (hc : ¬ (65 ≤ l[k].toNat ∧ l[k].toNat ≤ 90)) : lowK l (k + 1) = lowK l k := by
 rw [lowK_succ l k h]
 have e : lowB l[k] = (lowK l k)[k]'(by rw [lowK_length]; exact h) := by rw [lowK_get l k h]; simp [lowB, hc]
 rw [e, List.set_getElem_self]
set_option maxHeartbeats 1000000 in
set_option maxRecDepth 100000 in
theorem lower_walk (l : Bs) (w : World) (hl : l.length ≤ 140737488355328) :
  Calls Tryz.prog 126 #[.string (B l)] w fun e w' => e = .returned (.string (B (lower l))) ∧ Below w.heap.size w w' := by
 have hconv := fun W => Lib.run_convert_string_bytes (P := Tryz.prog) W 9 22 5 (B l) Tryz.underlying9 Tryz.underlying22 Tryz.underlying5
 have hback := fun (W : World) (k : Nat) (c : Nat) (h : BRow W w.heap.size (lowK l k)) => h.string (c := c) (P := Tryz.prog) (by rw [lowK_length]; omega) Tryz.underlying22 Tryz.underlying5 Tryz.underlying9
 go_enter Tryz.func126, Tryz.ntmps126
 go_wp2
 go_loopw [10] (fun i wr => ∃ k : Nat, k ≤ l.length ∧ i = .int .i64 k ∧ BRow wr w.heap.size (lowK l k) ∧ Below w.heap.size w wr) (fun i _ => l.length - (intOf i).toNat)
 case atStart => exact ⟨0, Nat.zero_le _, rfl, by rw [lowK_zero]; exact BRow.start w 5 l, bytes_below (Below.refl _ _) (Nat.le_refl _) _ _⟩
 case round =>
  obtain ⟨k, hk, rfl, hrow, hb⟩ := hrel
  by_cases hlt : k < l.length
  ·have hc := (hrow k (by rw [lowK_length]; exact hlt)).1
   have hf := (hrow k (by rw [lowK_length]; exact hlt)).2
   rw [lowK_get l k hlt] at hc
   have hs := lowK_succ l k hlt
   have hcap : ∀ h1 : 65 ≤ (l[k].toNat : Int), ∀ h2 : (l[k].toNat : Int) ≤ 90, ((l[k].toNat : Int) + 97 - 65) = ((lowB l[k]).toNat : Int) := by
    intro h1 h2
    unfold lowB
    rw [if_pos (by omega)]
    simp; omega
   have HS := Lib.hid hs; have HC := Lib.hid hcap
   clear hs hcap
   go_wp2
   ·go_roundw
    case rel =>
     refine ⟨k + 1, by omega, by go_num, ?_, hb.setCell (Nat.le_refl _) _⟩
     rw [HC.out (by assumption) (by assumption), HS.out]
     exact hrow.set k _ (by rw [lowK_length]; exact hlt)
    case measure => simp [intOf]; omega
   all_goals
    go_roundw
    case rel => exact ⟨k + 1, by omega, by go_num, by rw [lowK_same l k hlt (by omega)]; exact hrow, hb⟩
    case measure => simp [intOf]; omega
  ·obtain rfl : k = l.length := by omega
   have hcv := hback wr l.length (grownCap w l.length 0 5) hrow
   rw [lowK_length, lowK_all l _ (Nat.le_refl _)] at hcv
   have hb' := Lib.hid hb
   clear hb hback
   go_wp2
   go_ret
   exact ⟨rfl, hb'.out⟩
def impl_Lower.f (a0 : ByteArray) : Option (ByteArray) := if a0.size ≤ 140737488355328 then some (B (lower a0.data.toList)) else none
theorem impl_Lower.calls (a0 : ByteArray) (r : ByteArray) (w : World) (h : impl_Lower.f a0 = some r) :
  Calls Tryz.prog 126 #[.string a0] w fun e w' => e = .returned (.string r) ∧ Below w.heap.size w w' := by
 unfold impl_Lower.f at h
 by_cases c : a0.size ≤ 140737488355328
 ·rw [if_pos c] at h
  obtain ⟨l, rfl⟩ := exB a0
  obtain rfl := Option.some.inj h
  rw [B_data]
  exact lower_walk l w (by simpa using c)
 ·rw [if_neg c] at h; cases h
end Go.Proofs.YtopcpbokfngpeaaGreatDoor.H
set_option linter.unusedVariables false
namespace Go.Proofs.YtopcpbokfngpeaaGreatDoor.H
open Go.RowKit Go.Proofs.YtopcpbokfngpeaaGreatDoorW.PrintWords Go.Proofs.YtopcpbokfngpeaaGreatDoor.Base

def pathPut (ls : List Bs) : Bs := (ls.map fun s => 47 :: s).flatten
theorem pathPut_snoc (ls : List Bs) (s : Bs) : pathPut (ls ++ [s]) = pathPut ls ++ 47 :: s := by simp [pathPut]
theorem pathPut_take (ls : List Bs) (k : Nat) (h : k < ls.length) : pathPut (ls.take (k + 1)) = pathPut (ls.take k) ++ 47 :: ls[k] := by
 rw [List.take_succ_eq_append_getElem h, pathPut_snoc]
theorem pathPut_mono (ls : List Bs) (k : Nat) : (pathPut (ls.take k)).length ≤ (pathPut ls).length := by
 conv => rhs; rw [← List.take_append_drop k ls]
 unfold pathPut
 rw [List.map_append, List.flatten_append, List.length_append]; omega
theorem pp_app (a b : Bs) : Lib.byteCells (a ++ b) = Lib.byteCells a ++ Lib.byteCells b := by simp [Lib.byteCells]
theorem pp_len (a : Bs) : (Lib.byteCells a).length = a.length := by simp [Lib.byteCells]
def segs (l : List ByteArray) : List Bs := l.map fun s => s.data.toList
set_option maxHeartbeats 1000000 in
set_option maxRecDepth 100000 in
theorem pathPut_walk (A0 : Option Addr) (c0 : Nat) (l0 : List ByteArray) (w : World) (hr0 : Kd.C Kd.string w A0 l0.length l0) (hc0 : l0.length ≤ c0) (hm : l0.length ≤ 140737488355328) (hl : (pathPut (segs l0)).length ≤ 140737488355328) :
  Calls Tryz.prog 78 #[.slice A0 l0.length c0] w fun e w' => e = .returned (.string (B (pathPut (segs l0)))) ∧ Below w.heap.size w w' := by
 have hb0 : Lib.IsBuilder 101 5 w.heap.size w.heap.size [] (w.alloc (.cells #[.pointer none, .slice none 0 0] 101)) := Lib.fresh_isBuilder 101 5 w
 have hw0 : Below w.heap.size w (w.alloc (.cells #[.pointer none, .slice none 0 0] 101)) := (Below.refl _ w).alloc (Nat.le_refl _) _
 have HR := Lib.hid hr0
 clear hr0
 have hsl : (segs l0).length = l0.length := by simp [segs]
 go_enter Tryz.func78, Tryz.ntmps78
 go_wp2
 go_loopw [8] (fun i wr => ∃ k : Nat, k ≤ l0.length ∧ i = .int .i64 k ∧ Lib.IsBuilder 101 5 w.heap.size w.heap.size (Lib.byteCells (pathPut ((segs l0).take k))) wr ∧ Below w.heap.size w wr) (fun i _ => l0.length - (intOf i).toNat)
 case atStart => exact ⟨0, by omega, rfl, hb0, hw0⟩
 case round =>
  obtain ⟨k, hk, rfl, hbld, hb⟩ := hrel
  by_cases hlt : k < l0.length
  ·have hst := pathPut_take (segs l0) k (by omega)
   have hmo := pathPut_mono (segs l0) (k + 1)
   have hln : (segs l0)[k]'(by omega) = l0[k].data.toList := by simp [segs]
   rw [hln] at hst
   have hmx : (pathPut ((segs l0).take k)).length + (47 :: l0[k].data.toList).length ≤ 140737488355328 := by
    rw [hst, List.length_append] at hmo; omega
   obtain ⟨ad, e0, hcell⟩ := Kd.at_string (Kd.C_below HR.out hb) (k : Int) (by omega) (by omega)
   have hrd : rdOf ByteArray.empty l0 (k : Int) = l0[k] := by unfold rdOf; rw [Int.toNat_natCast, List.getD_eq_getElem?_getD, List.getElem?_eq_getElem hlt]; rfl
   rw [hrd, Int.toNat_natCast] at hcell
   obtain ⟨q, hq⟩ := exB l0[k]
   rw [hq] at hcell
   have hmx : (pathPut ((segs l0).take k)).length + (47 :: q).length ≤ 140737488355328 := by
    rw [hq, B_data] at hmx; exact hmx
   rw [hq, B_data] at hst
   have hdot : (⟨#[47]⟩ : ByteArray) ++ B q = B (47 :: q) := by rw [lit_B [47], B_append]; rfl
   have hwr : w.heap.size ≤ wr.heap.size := hb.size
   have hsz : (B q).size ≤ 140737488355328 := by rw [B_size]; simp at hmx; omega
   have hno : ¬ 9223372036854775807 < 1 + (B q).size := by omega
   have HS := Lib.hid hst
   have HD := Lib.hid hdot
   have HB := Lib.hid hbld
   clear hst hrd hln hmo hq hdot hbld
   subst e0
   go_wp2_with (go_at_call 111; go_loud (refine (Builder_WriteString w.heap.size w.heap.size _ _ _ HB.out (by rw [HD.out]; simpa [pp_len] using hmx) hwr).mono ?_; rintro e w5 ⟨rfl, h1, hb6⟩))
   go_roundw
   case rel => exact ⟨k + 1, by omega, by go_num, Or.inr (by rw [HD.out] at h1; rw [HS.out, pp_app]; exact h1), hb.trans hb6⟩
   case measure => simp [intOf]; omega
  ·obtain rfl : k = l0.length := by omega
   have hwr : w.heap.size ≤ wr.heap.size := hb.size
   rw [List.take_of_length_le (by omega)] at hbld
   go_wp2_with (go_at_call 112; go_loud (refine (Tryz.Builder_String_any w.heap.size w.heap.size (pathPut (segs l0)) wr hbld hwr).mono ?_; rintro e w1 ⟨rfl, hb1⟩))
   go_ret
   exact ⟨rfl, hb.trans hb1⟩
def impl_PathPut.f (l0 : List ByteArray) : Option (ByteArray) := if l0.length ≤ 140737488355328 ∧ (pathPut (segs l0)).length ≤ 140737488355328 then some (B (pathPut (segs l0))) else none
theorem impl_PathPut.calls (A0 : Option Addr) (c0 : Nat) (l0 : List ByteArray) (r : ByteArray) (w : World) (hr0 : Kd.C Kd.string w A0 l0.length l0) (hc0 : l0.length ≤ c0) (h : impl_PathPut.f l0 = some r) :
  Calls Tryz.prog 78 #[.slice A0 l0.length c0] w fun e w' => e = .returned (.string r) ∧ Below w.heap.size w w' := by
 unfold impl_PathPut.f at h
 split at h
 ·rename_i c
  obtain rfl := Option.some.inj h
  exact pathPut_walk A0 c0 l0 w hr0 hc0 c.1 c.2
 ·cases h
end Go.Proofs.YtopcpbokfngpeaaGreatDoor.H
namespace Go.Proofs.YtopcpbokfngpeaaGreatDoor.H
open Go.RowKit Go.Proofs.YtopcpbokfngpeaaGreatDoorW.PrintWords Go.Proofs.YtopcpbokfngpeaaGreatDoor.Base

theorem ret_int {k : IntKind} {a b : Int} (h : a = b) : Ending.returned (.int k a) = .returned (.int k b) := by rw [h]
theorem hex_walk (c : UInt8) (w : World) : Calls Tryz.prog 147 #[.int .u8 ((c.toNat : Nat) : Int)] w fun e w' => e = .returned (.int .i64 (hexI c)) ∧ w' = w := by
 obtain ⟨n, hn, hN⟩ : ∃ n : Int, n = hexI c ∧ Hid (n = hexI c) := ⟨_, rfl, Lib.hid rfl⟩
 have h255 : ((c.toNat : Nat) : Int) ≤ 255 := by have := lt256 c; omega
 rw [← hn]
 have h1 : 48 ≤ c.toNat ∧ c.toNat ≤ 57 → n = (c.toNat : Int) - 48 := fun h => by rw [hn]; unfold hexI; rw [if_pos h]
 have h2 : ¬ (48 ≤ c.toNat ∧ c.toNat ≤ 57) → 97 ≤ c.toNat ∧ c.toNat ≤ 102 → n = (c.toNat : Int) - 87 := fun h h' => by rw [hn]; unfold hexI; rw [if_neg h, if_pos h']
 have h3 : ¬ (48 ≤ c.toNat ∧ c.toNat ≤ 57) → ¬ (97 ≤ c.toNat ∧ c.toNat ≤ 102) → 65 ≤ c.toNat ∧ c.toNat ≤ 70 → n = (c.toNat : Int) - 55 := fun h h' h'' => by rw [hn]; unfold hexI; rw [if_neg h, if_neg h', if_pos h'']
 have h4 : ¬ (48 ≤ c.toNat ∧ c.toNat ≤ 57) → ¬ (97 ≤ c.toNat ∧ c.toNat ≤ 102) → ¬ (65 ≤ c.toNat ∧ c.toNat ≤ 70) → n = -1 := fun h h' h'' => by rw [hn]; unfold hexI; rw [if_neg h, if_neg h', if_neg h'']
 have H1 := Lib.hid h1; have H2 := Lib.hid h2; have H3 := Lib.hid h3; have H4 := Lib.hid h4
 clear h1 h2 h3 h4 hn
 go_enter Tryz.func147, Tryz.ntmps147
 go_wp2
 all_goals
  go_ret
  refine ⟨ret_int ?_, rfl⟩
  have a1 := H1.out
  have a2 := H2.out
  have a3 := H3.out
  have a4 := H4.out
  omega
theorem cells_snoc (D : Bs) (c : UInt8) : Lib.byteCells (D ++ [c]) = Lib.byteCells D ++ [.int .u8 ((c.toNat : Nat) : Int)] := by simp [Lib.byteCells]
set_option maxHeartbeats 1000000 in
set_option maxRecDepth 100000 in
theorem decode_walk (l : Bs) (w : World) (hl : l.length ≤ 600) :
  Calls Tryz.prog 133 #[.string (B l)] w fun e w' => e = .returned (.string (B (pctDec l))) ∧ Below w.heap.size w w' := by
 have hb0 : Lib.IsBuilder 101 5 w.heap.size w.heap.size (Lib.byteCells []) (w.alloc (.cells #[.pointer none, .slice none 0 0] 101)) := Lib.fresh_isBuilder 101 5 w
 have hw0 : Below w.heap.size w (w.alloc (.cells #[.pointer none, .slice none 0 0] 101)) := (Below.refl _ w).alloc (Nat.le_refl _) _
 go_enter Tryz.func133, Tryz.ntmps133
 go_wp2
 go_loopw [4] (fun i wr => ∃ (k : Nat) (D : Bs), k ≤ l.length ∧ i = .int .i64 k ∧ D.length ≤ k ∧ Hid (D ++ pctDec (l.drop k) = pctDec l) ∧ Lib.IsBuilder 101 5 w.heap.size w.heap.size (Lib.byteCells D) wr ∧ Below w.heap.size w wr) (fun i _ => l.length - (intOf i).toNat)
 case atStart => exact ⟨0, [], by omega, rfl, by simp, Lib.hid (by simp), hb0, hw0⟩
 case round =>
  obtain ⟨k, D, hk, rfl, hD, HE, hbld, hb⟩ := hrel
  by_cases hlt : k < l.length
  ·have hz : (l.length : Int) ≤ 600 := by omega
   have hwr : w.heap.size ≤ wr.heap.size := hb.size
   have hst := decode_at l k hlt
   by_cases c0 : l[k] = 37
   ·have c0a : ((l[k].toNat : Nat) : Int) = 37 := by rw [c0]; rfl
    have c0b : (((l[k].toNat : Nat) : Int) == 37) = true := by rw [c0a]; rfl
    clear c0a
    by_cases c1 : k + 2 < l.length
    ·have x1 := hex_walk l[k + 1]
     have x2 := hex_walk l[k + 2]
     have k1 : (k : Int) + 2 < (l.length : Int) := by omega
     have k0 : (k : Int) + 1 < (l.length : Int) := by omega
     by_cases c2 : 0 ≤ hexI l[k + 1]
     ·have c2a : decide (0 ≤ hexI l[k + 1]) = true := decide_eq_true c2
      by_cases c3 : 0 ≤ hexI l[k + 2]
      ·have c3a : decide (0 ≤ hexI l[k + 2]) = true := decide_eq_true c3
       have r1 := hexI_rng l[k + 1]
       have r2 := hexI_rng l[k + 2]
       have he : escAt l k = true := by unfold escAt; rw [get_eq hlt, get_eq (show k + 1 < l.length by omega), get_eq c1]; simp [c0, c1, c2, c3]
       rw [he, if_pos rfl, get_eq (show k + 1 < l.length by omega), get_eq c1] at hst
       have HS := Lib.hid hst
       have HV : Hid ((16 * hexI l[k + 1] + hexI l[k + 2]) % 256 = ((escByte l[k + 1] l[k + 2]).toNat : Int)) := Lib.hid (by
        rw [escByte_val l[k + 1] l[k + 2] c2 c3]; omega)
       clear hst he c0 c2 c3
       go_wp2_with fail
       refine (x1 _).mono ?_
       rintro e w' ⟨rfl, rfl⟩
       go_wp2_with fail
       refine (x2 _).mono ?_
       rintro e w' ⟨rfl, rfl⟩
       go_wp2_with fail
       have hw1 : IntKind.i64.wrap ((k : Int) + 1) = (k : Int) + 1 := by rw [i64wrap]; exact w64 (by omega) (by omega)
       have hw2 : IntKind.i64.wrap ((k : Int) + 2) = (k : Int) + 2 := by rw [i64wrap]; exact w64 (by omega) (by omega)
       have hw3 : IntKind.i64.wrap (16 * hexI l[k + 1]) = 16 * hexI l[k + 1] := by rw [i64wrap]; exact w64 (by omega) (by omega)
       have hw4 : IntKind.i64.wrap (16 * hexI l[k + 1] + hexI l[k + 2]) = 16 * hexI l[k + 1] + hexI l[k + 2] := by rw [i64wrap]; exact w64 (by omega) (by omega)
       have ht1 : ((k : Int) + 1).toNat = k + 1 := by omega
       have ht2 : ((k : Int) + 2).toNat = k + 2 := by omega
       have hp1 : 0 ≤ (k : Int) + 1 := by omega
       have hp2 : 0 ≤ (k : Int) + 2 := by omega
       go_still_tail 13, (by kernel_rfl)
       still_call (x1 _)
       repeat still_step
       still_call (x2 _)
       repeat still_step
       refine wpStill_nil ?_
       have hbld1 : Lib.IsBuilder 101 5 w.heap.size w.heap.size (Lib.byteCells D) w'.drew := hbld
       have hb1 : Below w.heap.size w w'.drew := hb.drew
       have hwr1 : w.heap.size ≤ w'.drew.heap.size := hwr
       change wpList _ _ _ _ _ w'.drew
       generalize w'.drew = w2 at hbld1 hb1 hwr1 ⊢
       clear hbld hb hwr
       go_wp2_with fail
       refine (Builder_WriteByte w.heap.size w.heap.size (Lib.byteCells D) _ _ hbld1 (by simp [Lib.byteCells]; omega) hwr1).mono ?_
       rintro e w1 ⟨rfl, h1, hb2⟩
       rw [HV.out] at h1
       go_wp2
       go_roundw
       case rel => exact ⟨k + 3, D ++ [escByte l[k + 1] l[k + 2]], by omega, by go_num, by simp; omega, Lib.hid (by rw [← HE.out, HS.out]; simp), Or.inr (by rw [cells_snoc]; exact h1), hb1.trans hb2⟩
       case measure => simp [intOf]; omega
      ·have c3a : decide (0 ≤ hexI l[k + 2]) = false := decide_eq_false c3
       have he : escAt l k = false := by unfold escAt; rw [get_eq hlt, get_eq (show k + 1 < l.length by omega), get_eq c1]; simp [c0, c1, c2, c3]
       rw [he, if_neg (by simp)] at hst
       have HS := Lib.hid hst
       clear hst he c0 c2 c3
       go_wp2_with fail
       refine (x1 _).mono ?_
       rintro e w' ⟨rfl, rfl⟩
       go_wp2_with fail
       refine (x2 _).mono ?_
       rintro e w' ⟨rfl, rfl⟩
       go_wp2_with (go_at_call 130; refine (Builder_WriteByte w.heap.size w.heap.size (Lib.byteCells D) _ _ hbld (by simp [Lib.byteCells]; omega) hwr).mono ?_; rintro e w1 ⟨rfl, h1, hb1⟩)
       go_roundw
       case rel => exact ⟨k + 1, D ++ [l[k]], by omega, by go_num, by simp; omega, Lib.hid (by rw [← HE.out, HS.out]; simp), Or.inr (by rw [cells_snoc]; exact h1), hb.trans hb1⟩
       case measure => simp [intOf]; omega
     ·have c2a : decide (0 ≤ hexI l[k + 1]) = false := decide_eq_false c2
      have he : escAt l k = false := by unfold escAt; rw [get_eq hlt, get_eq (show k + 1 < l.length by omega), get_eq c1]; simp [c0, c1, c2]
      rw [he, if_neg (by simp)] at hst
      have HS := Lib.hid hst
      clear hst he c0 c2
      go_wp2_with fail
      refine (x1 _).mono ?_
      rintro e w' ⟨rfl, rfl⟩
      go_wp2_with (go_at_call 130; refine (Builder_WriteByte w.heap.size w.heap.size (Lib.byteCells D) _ _ hbld (by simp [Lib.byteCells]; omega) hwr).mono ?_; rintro e w1 ⟨rfl, h1, hb1⟩)
      go_roundw
      case rel => exact ⟨k + 1, D ++ [l[k]], by omega, by go_num, by simp; omega, Lib.hid (by rw [← HE.out, HS.out]; simp), Or.inr (by rw [cells_snoc]; exact h1), hb.trans hb1⟩
      case measure => simp [intOf]; omega
    ·have k1 : ¬ ((k : Int) + 2 < (l.length : Int)) := by omega
     have he : escAt l k = false := by unfold escAt; simp [c1]
     rw [he, if_neg (by simp)] at hst
     have HS := Lib.hid hst
     clear hst he c0
     go_wp2_with (go_at_call 130; refine (Builder_WriteByte w.heap.size w.heap.size (Lib.byteCells D) _ _ hbld (by simp [Lib.byteCells]; omega) hwr).mono ?_; rintro e w1 ⟨rfl, h1, hb1⟩)
     go_roundw
     case rel => exact ⟨k + 1, D ++ [l[k]], by omega, by go_num, by simp; omega, Lib.hid (by rw [← HE.out, HS.out]; simp), Or.inr (by rw [cells_snoc]; exact h1), hb.trans hb1⟩
     case measure => simp [intOf]; omega
   ·have c0b : (((l[k].toNat : Nat) : Int) == 37) = false := by
     rw [beq_eq_false_iff_ne]; intro e; exact c0 ((byte_eq _ 37 (by decide)).1 e)
    have he : escAt l k = false := by unfold escAt; rw [get_eq hlt]; simp [c0]
    rw [he, if_neg (by simp)] at hst
    have HS := Lib.hid hst
    clear hst he c0
    go_wp2_with (go_at_call 130; refine (Builder_WriteByte w.heap.size w.heap.size (Lib.byteCells D) _ _ hbld (by simp [Lib.byteCells]; omega) hwr).mono ?_; rintro e w1 ⟨rfl, h1, hb1⟩)
    go_roundw
    case rel => exact ⟨k + 1, D ++ [l[k]], by omega, by go_num, by simp; omega, Lib.hid (by rw [← HE.out, HS.out]; simp), Or.inr (by rw [cells_snoc]; exact h1), hb.trans hb1⟩
    case measure => simp [intOf]; omega
  ·obtain rfl : k = l.length := by omega
   have hD' : D = pctDec l := by have := HE.out; rw [List.drop_length, decode_nil, List.append_nil] at this; exact this
   have hwr : w.heap.size ≤ wr.heap.size := hb.size
   rw [hD'] at hbld
   clear hD' HE
   go_wp2_with (go_at_call 112; refine (Tryz.Builder_String_any w.heap.size w.heap.size (pctDec l) wr hbld hwr).mono ?_; rintro e w1 ⟨rfl, hb1⟩)
   go_ret
   exact ⟨rfl, hb.trans hb1⟩
theorem decode_far (l : Bs) (w : World) (hl : ¬ l.length ≤ 600) :
  Calls Tryz.prog 133 #[.string (B l)] w fun e w' => e = .returned (.string (B [])) ∧ Below w.heap.size w w' := by
 have h1 : decide (600 < (l.length : Int)) = true := decide_eq_true (by omega)
 go_enter Tryz.func133, Tryz.ntmps133
 go_wp2
 go_ret
 exact ⟨rfl, Below.refl _ _⟩
def decodeMax (l : Bs) : Bs := if l.length ≤ 600 then pctDec l else []
def impl_Decode.f (a0 : ByteArray) : Option (ByteArray) := some (B (decodeMax a0.data.toList))
theorem impl_Decode.calls (a0 : ByteArray) (r : ByteArray) (w : World) (h : impl_Decode.f a0 = some r) :
  Calls Tryz.prog 133 #[.string a0] w fun e w' => e = .returned (.string r) ∧ Below w.heap.size w w' := by
 obtain ⟨l, rfl⟩ := exB a0
 unfold impl_Decode.f decodeMax at h
 rw [B_data] at h
 obtain rfl := Option.some.inj h
 by_cases c : l.length ≤ 600
 ·rw [if_pos c]; exact decode_walk l w c
 ·rw [if_neg c]; exact decode_far l w c
end Go.Proofs.YtopcpbokfngpeaaGreatDoor.H
namespace Go.Proofs.YtopcpbokfngpeaaGreatDoor.H
open Go.RowKit Go.Proofs.YtopcpbokfngpeaaGreatDoorW.PrintWords Go.Proofs.YtopcpbokfngpeaaGreatDoor.Base
theorem fig_bt (n : Nat) : bt (⟨#[48, 49, 50, 51, 52, 53, 54, 55, 56, 57, 65, 66, 67, 68, 69, 70]⟩ : ByteArray) ((n : Nat) : Int) = (((fig n).toNat : Nat) : Int) := by
 have : (⟨#[48, 49, 50, 51, 52, 53, 54, 55, 56, 57, 65, 66, 67, 68, 69, 70]⟩ : ByteArray) = B figs := rfl
 rw [this, bt_B, Int.toNat_natCast]; rfl
theorem percent_some (c : UInt8) : Lf.impl_percent.f ((c.toNat : Nat) : Int) = some (B (pct c)) := by
 have h := lt256 c
 unfold Lf.impl_percent.f
 have e1 : (((c.toNat : Nat) : Int) / 16) = ((c.toNat / 16 : Nat) : Int) := rfl
 have e2 : Go.bits .and .u8 ((c.toNat : Nat) : Int) 15 = ((c.toNat % 16 : Nat) : Int) := by
  rw [u8_and15 _ (by omega) (by omega)]; rfl
 rw [e1, e2, if_pos (by omega), if_pos (by omega), if_pos (by omega), if_pos (by omega), fig_bt, fig_bt]
 exact congrArg some (str_ns (pct c))
theorem percent_walk (c : UInt8) (w : World) : Calls Tryz.prog 129 #[.int .u8 ((c.toNat : Nat) : Int)] w fun e w' => e = .returned (.string (B (pct c))) ∧ Below w.heap.size w w' :=
 Lf.impl_percent.calls _ _ w (percent_some c)
theorem isLetter_walk (c : UInt8) (w : World) : Calls Tryz.prog 125 #[.int .u8 ((c.toNat : Nat) : Int)] w fun e w' => e = .returned (.bool (isLet c)) ∧ Drawn0 w w' := by
 refine Lf.impl_isLetter.calls _ _ w ?_
 unfold Lf.impl_isLetter.f isLet
 by_cases h1 : ((c.toNat : Nat) : Int) ≥ 97
 ·rw [if_pos h1]
  by_cases h2 : ((c.toNat : Nat) : Int) ≤ 122
  ·rw [if_pos h2]; congr 1; simp; omega
  ·rw [if_neg h2]
   by_cases h3 : ((c.toNat : Nat) : Int) ≥ 65
   ·rw [if_pos h3]; congr 1; exact bool_eq (by simp; omega)
   ·rw [if_neg h3]; congr 1; symm; simp; omega
 ·rw [if_neg h1]
  by_cases h3 : ((c.toNat : Nat) : Int) ≥ 65
  ·rw [if_pos h3]; congr 1; exact bool_eq (by simp; omega)
  ·rw [if_neg h3]; congr 1; symm; simp; omega
theorem isDigit_walk (c : UInt8) (w : World) : Calls Tryz.prog 119 #[.int .u8 ((c.toNat : Nat) : Int)] w fun e w' => e = .returned (.bool (isDig c)) ∧ Drawn0 w w' := by
 refine Lf.impl_isDigit.calls _ _ w ?_
 unfold Lf.impl_isDigit.f isDig
 by_cases h1 : ((c.toNat : Nat) : Int) ≥ 48
 ·rw [if_pos h1]; congr 1; exact bool_eq (by simp; omega)
 ·rw [if_neg h1]; congr 1; symm; simp; omega
theorem idx_iff (l : Bs) (c : UInt8) : 0 ≤ Lib.indexByte l c ↔ l.contains c = true := by
 induction l with
 | nil => simp [Lib.indexByte]
 | cons b t ih =>
  unfold Lib.indexByte
  have hge := Lib.indexByte_ge t c
  rw [List.contains_cons]
  by_cases e : b = c
  ·subst e; simp
  ·have e1 : (b == c) = false := by rw [beq_eq_false_iff_ne]; exact e
   have e2 : (c == b) = false := by rw [beq_eq_false_iff_ne]; exact fun h => e h.symm
   rw [e1, e2, Bool.false_or, ← ih]
   simp only [Bool.false_eq_true, if_false]
   by_cases h : Lib.indexByte t c = -1
   ·simp [h]
   ·rw [if_neg (by simpa using h)]; omega
theorem indexByte_walk (l : Bs) (c : UInt8) (w : World) : Calls Tryz.prog 128 #[.string (B l), .int .u8 ((c.toNat : Nat) : Int)] w fun e w' => e = .returned (.int .i64 (Lib.indexByte l c)) ∧ w' = w := by
 have := Tryz.strings_IndexByte (B l) ((c.toNat : Nat) : Int) w
 have e : ((c.toNat : Nat) : Int).toNat.toUInt8 = c := by simp
 rw [e, B_data] at this
 exact this
theorem contains_yes {l : Bs} {c : UInt8} (h : l.contains c = true) : decide (0 ≤ Lib.indexByte l c) = true := decide_eq_true ((idx_iff l c).2 h)
theorem contains_no {l : Bs} {c : UInt8} (h : l.contains c = false) : decide (0 ≤ Lib.indexByte l c) = false := decide_eq_false (fun h' => by rw [(idx_iff l c).1 h'] at h; cases h)
theorem below_builder {T e : TypeId} {B b : Nat} {bs : List Value} {w w' : World} (h : Lib.IsBuilder T e B b bs w) (hb : Below w.heap.size w w') : Lib.IsBuilder T e B b bs w' := by
 have go : ∀ p, Lib.BuilderAt T e B b p bs w → Lib.BuilderAt T e B b p bs w' := by
  rintro p ⟨hB, v, hv, hown, hne⟩
  have hlt : b < w.heap.size := (Array.getElem?_eq_some_iff.1 hv).1
  exact ⟨hB, v, by rw [hb.block b hlt]; exact hv, pw_own_below hown hb, hne⟩
 rcases h with h | h
 ·exact .inl (go _ h)
 ·exact .inr (go _ h)
theorem cells_app (a b : Bs) : Lib.byteCells (a ++ b) = Lib.byteCells a ++ Lib.byteCells b := by simp [Lib.byteCells]
theorem cells_one (c : UInt8) : Lib.byteCells [c] = [.int .u8 ((c.toNat : Nat) : Int)] := rfl
theorem cells_len (a : Bs) : (Lib.byteCells a).length = a.length := by simp [Lib.byteCells]
end Go.Proofs.YtopcpbokfngpeaaGreatDoor.H
namespace Go.Proofs.YtopcpbokfngpeaaGreatDoor.H
open Go.RowKit Go.Proofs.YtopcpbokfngpeaaGreatDoorW.PrintWords Go.Proofs.YtopcpbokfngpeaaGreatDoor.Base
def setI (n : Int) : Bs := if 1 ≤ n ∧ n ≤ 5 then sets[n.toNat]?.getD [] else []
theorem in_walk (n : Int) (w : World) : Calls Tryz.prog 52 #[.int .i64 n, .int .i64 1, .int .i64 5] w fun e w' => e = .returned (.bool (decide (1 ≤ n ∧ n ≤ 5))) ∧ w' = w := by
 go_enter Tryz.func52, Tryz.ntmps52
 by_cases h1 : 1 ≤ n
 ·have d1 : decide (1 ≤ n) = true := decide_eq_true h1
  by_cases h2 : n ≤ 5
  ·have d2 : decide (n ≤ 5) = true := decide_eq_true h2
   have hd : decide (1 ≤ n ∧ n ≤ 5) = true := decide_eq_true ⟨h1, h2⟩
   rw [hd]; clear hd h1 h2
   go_wp2
   go_ret
   exact ⟨rfl, rfl⟩
  ·have d2 : decide (n ≤ 5) = false := decide_eq_false h2
   have hd : decide (1 ≤ n ∧ n ≤ 5) = false := decide_eq_false (fun h => h2 h.2)
   rw [hd]; clear hd h1 h2
   go_wp2
   go_ret
   exact ⟨rfl, rfl⟩
 ·have d1 : decide (1 ≤ n) = false := decide_eq_false h1
  have hd : decide (1 ≤ n ∧ n ≤ 5) = false := decide_eq_false (fun h => h1 h.1)
  rw [hd]; clear hd h1
  go_wp2
  go_ret
  exact ⟨rfl, rfl⟩
set_option maxHeartbeats 4000000 in
set_option maxRecDepth 100000 in
theorem encode_walk (n : Int) (l : Bs) (w : World) (hT : TabS w) (hl : (enc (setI n) l).length ≤ 140737488355328) :
  Calls Tryz.prog 92 #[.int .i64 n, .string (B l)] w fun e w' => e = .returned (.string (B (enc (setI n) l))) ∧ Below w.heap.size w w' := by
 obtain ⟨a, c, hs, ht⟩ := hT
 have hb0 : Lib.IsBuilder 101 5 w.heap.size w.heap.size (Lib.byteCells []) (w.alloc (.cells #[.pointer none, .slice none 0 0] 101)) := Lib.fresh_isBuilder 101 5 w
 have hw0 : Below w.heap.size w (w.alloc (.cells #[.pointer none, .slice none 0 0] 101)) := (Below.refl _ w).alloc (Nat.le_refl _) _
 have hln := (enc_len (setI n) l).1
 by_cases h : 1 ≤ n ∧ n ≤ 5
 ·have hset : setI n = sets[n.toNat]?.getD [] := by unfold setI; rw [if_pos h]
  have hcell := ht n.toNat (by omega)
  rw [← hset] at hcell
  clear hset ht
  generalize setI n = any at hcell hl hln ⊢
  go_enter Tryz.func92, Tryz.ntmps92
  have hin := fun W => in_walk n W
  simp only [decide_eq_true h] at hin
  have HIN := Lib.hid hin
  clear hin
  go_wp2_with (go_at_call 52; refine (HIN.out _).mono ?_; rintro e w1 ⟨rfl, hw1⟩; subst w1)
  go_loopw [17] (fun i wr => ∃ k : Nat, k ≤ l.length ∧ i = .int .i64 k ∧ Lib.IsBuilder 101 5 w.heap.size w.heap.size (Lib.byteCells (enc any (l.take k))) wr ∧ Below w.heap.size w wr) (fun i _ => l.length - (intOf i).toNat)
  case atStart => exact ⟨0, by omega, rfl, hb0, hw0⟩
  case round =>
   obtain ⟨k, hk, rfl, hbld, hb⟩ := hrel
   by_cases hlt : k < l.length
   ·have hst := enc_take any l k hlt
    have hmo : (enc any (l.take (k + 1))).length ≤ (enc any l).length := by
     conv => rhs; rw [← List.take_append_drop (k + 1) l, enc_append]
     simp
    have hmx : (enc any (l.take k)).length + (encC any l[k]).length ≤ 140737488355328 := by
     rw [hst, List.length_append] at hmo; omega
    have HS := Lib.hid hst
    have hwr := hb.size
    clear hst hmo
    have yes : needs any l[k] = true → encC any l[k] = pct l[k] := fun q => by unfold encC; rw [if_pos q]
    have no : needs any l[k] = false → encC any l[k] = [l[k]] := fun q => by unfold encC; rw [if_neg (by rw [q]; simp)]
    by_cases c1 : l[k].toNat < 32
    ·have hC := yes (by unfold needs; simp [c1])
     have c1b : decide (((l[k].toNat : Nat) : Int) < 32) = true := decide_eq_true (by omega)
     rw [hC] at hmx
     have HC := Lib.hid hC
     clear hC yes no c1
     go_wp2_with fail
     refine (percent_walk l[k] _).mono ?_
     rintro e w4 ⟨rfl, hb4⟩
     have hbld4 := below_builder hbld hb4
     have hb5 : Below w.heap.size w w4 := below_then hb hwr hb4
     have hwr4 : w.heap.size ≤ w4.heap.size := hb5.size
     clear hbld hb4 hb hwr
     go_wp2_with (go_at_call 111; refine (Builder_WriteString w.heap.size w.heap.size _ (B (pct l[k])) _ hbld4 (by simpa [cells_len] using hmx) hwr4).mono ?_; rintro e w5 ⟨rfl, h1, hb6⟩)
     go_roundw
     case rel => exact ⟨k + 1, by omega, by go_num, Or.inr (by rw [HS.out, HC.out, cells_app]; exact h1), hb5.trans hb6⟩
     case measure => simp [intOf]; omega
    have c1b : decide (((l[k].toNat : Nat) : Int) < 32) = false := decide_eq_false (by omega)
    by_cases c2 : 126 < l[k].toNat
    ·have hC := yes (by unfold needs; simp [c2])
     have c2b : decide (126 < ((l[k].toNat : Nat) : Int)) = true := decide_eq_true (by omega)
     rw [hC] at hmx
     have HC := Lib.hid hC
     clear hC yes no c2 c1
     go_wp2_with fail
     refine (percent_walk l[k] _).mono ?_
     rintro e w4 ⟨rfl, hb4⟩
     have hbld4 := below_builder hbld hb4
     have hb5 : Below w.heap.size w w4 := below_then hb hwr hb4
     have hwr4 : w.heap.size ≤ w4.heap.size := hb5.size
     clear hbld hb4 hb hwr
     go_wp2_with (go_at_call 111; refine (Builder_WriteString w.heap.size w.heap.size _ (B (pct l[k])) _ hbld4 (by simpa [cells_len] using hmx) hwr4).mono ?_; rintro e w5 ⟨rfl, h1, hb6⟩)
     go_roundw
     case rel => exact ⟨k + 1, by omega, by go_num, Or.inr (by rw [HS.out, HC.out, cells_app]; exact h1), hb5.trans hb6⟩
     case measure => simp [intOf]; omega
    have c2b : decide (126 < ((l[k].toNat : Nat) : Int)) = false := decide_eq_false (by omega)
    have hnd : needs any l[k] = any.contains l[k] := by unfold needs; simp [c1, c2]
    clear c1 c2
    go_wp2_with fail
    refine (indexByte_walk any l[k] _).mono ?_
    rintro e w3 ⟨rfl, rfl⟩
    by_cases c3 : any.contains l[k] = true
    ·have hx := contains_yes c3
     have hC := yes (by rw [hnd, c3])
     rw [hC] at hmx
     have HC := Lib.hid hC
     clear hC yes no hnd c3
     go_wp2_with fail
     refine (percent_walk l[k] _).mono ?_
     rintro e w4 ⟨rfl, hb4⟩
     have hbld4 := below_builder hbld hb4
     have hb5 : Below w.heap.size w w4 := below_then hb hwr hb4
     have hwr4 : w.heap.size ≤ w4.heap.size := hb5.size
     clear hbld hb4 hb hwr
     go_wp2_with (go_at_call 111; refine (Builder_WriteString w.heap.size w.heap.size _ (B (pct l[k])) _ hbld4 (by simpa [cells_len] using hmx) hwr4).mono ?_; rintro e w5 ⟨rfl, h1, hb6⟩)
     go_roundw
     case rel => exact ⟨k + 1, by omega, by go_num, Or.inr (by rw [HS.out, HC.out, cells_app]; exact h1), hb5.trans hb6⟩
     case measure => simp [intOf]; omega
    ·have c3' : any.contains l[k] = false := by simpa using c3
     have hx := contains_no c3'
     have hC := no (by rw [hnd, c3'])
     rw [hC] at hmx
     have HC := Lib.hid hC
     clear hC yes no hnd c3 c3'
     go_wp2_with (go_at_call 130; refine (Builder_WriteByte w.heap.size w.heap.size _ _ _ hbld (by simpa [cells_len] using hmx) hwr).mono ?_; rintro e w4 ⟨rfl, h1, hb2⟩)
     go_roundw
     case rel => exact ⟨k + 1, by omega, by go_num, Or.inr (by rw [HS.out, HC.out, cells_app, cells_one]; exact h1), hb.trans hb2⟩
     case measure => simp [intOf]; omega
   ·obtain rfl : k = l.length := by omega
    have hwr : w.heap.size ≤ wr.heap.size := hb.size
    rw [List.take_of_length_le (Nat.le_refl _)] at hbld
    go_wp2_with (go_at_call 112; refine (Tryz.Builder_String_any w.heap.size w.heap.size (enc any l) wr hbld hwr).mono ?_; rintro e w1 ⟨rfl, hb1⟩)
    go_ret
    exact ⟨rfl, hb.trans hb1⟩
 ·have hset : setI n = [] := by unfold setI; rw [if_neg h]
  obtain ⟨any, hany⟩ : ∃ any : Bs, any = [] := ⟨_, rfl⟩
  have hbe : (⟨#[]⟩ : ByteArray) = B any := by rw [hany]; rfl
  rw [hset, ← hany] at hl hln ⊢
  have HE := Lib.hid hbe
  clear hset ht hs hany hbe
  go_enter Tryz.func92, Tryz.ntmps92
  have hin := fun W => in_walk n W
  simp only [decide_eq_false h] at hin
  have HIN := Lib.hid hin
  clear hin
  go_wp2_with (go_at_call 52; refine (HIN.out _).mono ?_; rintro e w1 ⟨rfl, hw1⟩; subst w1)
  rw [HE.out]
  go_loopw [17] (fun i wr => ∃ k : Nat, k ≤ l.length ∧ i = .int .i64 k ∧ Lib.IsBuilder 101 5 w.heap.size w.heap.size (Lib.byteCells (enc any (l.take k))) wr ∧ Below w.heap.size w wr) (fun i _ => l.length - (intOf i).toNat)
  case atStart => exact ⟨0, by omega, rfl, hb0, hw0⟩
  case round =>
   obtain ⟨k, hk, rfl, hbld, hb⟩ := hrel
   by_cases hlt : k < l.length
   ·have hst := enc_take any l k hlt
    have hmo : (enc any (l.take (k + 1))).length ≤ (enc any l).length := by
     conv => rhs; rw [← List.take_append_drop (k + 1) l, enc_append]
     simp
    have hmx : (enc any (l.take k)).length + (encC any l[k]).length ≤ 140737488355328 := by
     rw [hst, List.length_append] at hmo; omega
    have HS := Lib.hid hst
    have hwr := hb.size
    clear hst hmo
    have yes : needs any l[k] = true → encC any l[k] = pct l[k] := fun q => by unfold encC; rw [if_pos q]
    have no : needs any l[k] = false → encC any l[k] = [l[k]] := fun q => by unfold encC; rw [if_neg (by rw [q]; simp)]
    by_cases c1 : l[k].toNat < 32
    ·have hC := yes (by unfold needs; simp [c1])
     have c1b : decide (((l[k].toNat : Nat) : Int) < 32) = true := decide_eq_true (by omega)
     rw [hC] at hmx
     have HC := Lib.hid hC
     clear hC yes no c1
     go_wp2_with fail
     refine (percent_walk l[k] _).mono ?_
     rintro e w4 ⟨rfl, hb4⟩
     have hbld4 := below_builder hbld hb4
     have hb5 : Below w.heap.size w w4 := below_then hb hwr hb4
     have hwr4 : w.heap.size ≤ w4.heap.size := hb5.size
     clear hbld hb4 hb hwr
     go_wp2_with (go_at_call 111; refine (Builder_WriteString w.heap.size w.heap.size _ (B (pct l[k])) _ hbld4 (by simpa [cells_len] using hmx) hwr4).mono ?_; rintro e w5 ⟨rfl, h1, hb6⟩)
     go_roundw
     case rel => exact ⟨k + 1, by omega, by go_num, Or.inr (by rw [HS.out, HC.out, cells_app]; exact h1), hb5.trans hb6⟩
     case measure => simp [intOf]; omega
    have c1b : decide (((l[k].toNat : Nat) : Int) < 32) = false := decide_eq_false (by omega)
    by_cases c2 : 126 < l[k].toNat
    ·have hC := yes (by unfold needs; simp [c2])
     have c2b : decide (126 < ((l[k].toNat : Nat) : Int)) = true := decide_eq_true (by omega)
     rw [hC] at hmx
     have HC := Lib.hid hC
     clear hC yes no c2 c1
     go_wp2_with fail
     refine (percent_walk l[k] _).mono ?_
     rintro e w4 ⟨rfl, hb4⟩
     have hbld4 := below_builder hbld hb4
     have hb5 : Below w.heap.size w w4 := below_then hb hwr hb4
     have hwr4 : w.heap.size ≤ w4.heap.size := hb5.size
     clear hbld hb4 hb hwr
     go_wp2_with (go_at_call 111; refine (Builder_WriteString w.heap.size w.heap.size _ (B (pct l[k])) _ hbld4 (by simpa [cells_len] using hmx) hwr4).mono ?_; rintro e w5 ⟨rfl, h1, hb6⟩)
     go_roundw
     case rel => exact ⟨k + 1, by omega, by go_num, Or.inr (by rw [HS.out, HC.out, cells_app]; exact h1), hb5.trans hb6⟩
     case measure => simp [intOf]; omega
    have c2b : decide (126 < ((l[k].toNat : Nat) : Int)) = false := decide_eq_false (by omega)
    have hnd : needs any l[k] = any.contains l[k] := by unfold needs; simp [c1, c2]
    clear c1 c2
    go_wp2_with fail
    refine (indexByte_walk any l[k] _).mono ?_
    rintro e w3 ⟨rfl, rfl⟩
    by_cases c3 : any.contains l[k] = true
    ·have hx := contains_yes c3
     have hC := yes (by rw [hnd, c3])
     rw [hC] at hmx
     have HC := Lib.hid hC
     clear hC yes no hnd c3
     go_wp2_with fail
     refine (percent_walk l[k] _).mono ?_
     rintro e w4 ⟨rfl, hb4⟩
     have hbld4 := below_builder hbld hb4
     have hb5 : Below w.heap.size w w4 := below_then hb hwr hb4
     have hwr4 : w.heap.size ≤ w4.heap.size := hb5.size
     clear hbld hb4 hb hwr
     go_wp2_with (go_at_call 111; refine (Builder_WriteString w.heap.size w.heap.size _ (B (pct l[k])) _ hbld4 (by simpa [cells_len] using hmx) hwr4).mono ?_; rintro e w5 ⟨rfl, h1, hb6⟩)
     go_roundw
     case rel => exact ⟨k + 1, by omega, by go_num, Or.inr (by rw [HS.out, HC.out, cells_app]; exact h1), hb5.trans hb6⟩
     case measure => simp [intOf]; omega
    ·have c3' : any.contains l[k] = false := by simpa using c3
     have hx := contains_no c3'
     have hC := no (by rw [hnd, c3'])
     rw [hC] at hmx
     have HC := Lib.hid hC
     clear hC yes no hnd c3 c3'
     go_wp2_with (go_at_call 130; refine (Builder_WriteByte w.heap.size w.heap.size _ _ _ hbld (by simpa [cells_len] using hmx) hwr).mono ?_; rintro e w4 ⟨rfl, h1, hb2⟩)
     go_roundw
     case rel => exact ⟨k + 1, by omega, by go_num, Or.inr (by rw [HS.out, HC.out, cells_app, cells_one]; exact h1), hb.trans hb2⟩
     case measure => simp [intOf]; omega
   ·obtain rfl : k = l.length := by omega
    have hwr : w.heap.size ≤ wr.heap.size := hb.size
    rw [List.take_of_length_le (Nat.le_refl _)] at hbld
    go_wp2_with (go_at_call 112; refine (Tryz.Builder_String_any w.heap.size w.heap.size (enc any l) wr hbld hwr).mono ?_; rintro e w1 ⟨rfl, hb1⟩)
    go_ret
    exact ⟨rfl, hb.trans hb1⟩
def impl_encode.f (a0 : Int) (a1 : ByteArray) : Option (ByteArray) := if (enc (setI a0) a1.data.toList).length ≤ 140737488355328 then some (B (enc (setI a0) a1.data.toList)) else none
theorem impl_encode.calls (a0 : Int) (a1 : ByteArray) (r : ByteArray) (w : World) (hT : TabS w) (h : impl_encode.f a0 a1 = some r) :
  Calls Tryz.prog 92 #[.int .i64 a0, .string a1] w fun e w' => e = .returned (.string r) ∧ Below w.heap.size w w' := by
 obtain ⟨l, rfl⟩ := exB a1
 unfold impl_encode.f at h
 rw [B_data] at h
 by_cases c : (enc (setI a0) l).length ≤ 140737488355328
 ·rw [if_pos c] at h
  obtain rfl := Option.some.inj h
  exact encode_walk a0 l w hT c
 ·rw [if_neg c] at h; cases h
end Go.Proofs.YtopcpbokfngpeaaGreatDoor.H
/- strings.Split at a separator of one byte: the call comes to the pieces, for every text of fewer than 4294967281 bytes; internal/bytealg.MaxLen holds some integer. · strings.ReplaceAll: the call comes to the text with each instance written as the other, for texts of fewer than 4294967281 bytes, an instance not empty, the other not longer; internal/bytealg.MaxLen holds some integer. · strings.Cut at a separator of one byte: the call comes to what stands ahead of the first such byte, what stands behind it, and whether there is one, for every text of fewer than 4294967281 bytes; internal/bytealg.MaxLen holds some integer. · strings.Split at one byte, and impl.clone of strings: what the calls come to, told cell by cell. Condition: fewer than 4294967281 bytes; the clone's strings take at most 2^47 bytes as headers; internal/bytealg.MaxLen holds some integer. · strings.Join: the call comes to the texts with the separator between them, if that takes at most 2^40 bytes. · strconv.Itoa: the call comes to the number's decimals, for every int; internal/strconv.uint64pow10 reads as its table. -/
namespace Go.Proofs.YtopcpbokfngpeaaGreatDoor.H
open Go.RowKit Go.Proofs.YtopcpbokfngpeaaGreatDoorW.PrintWords Go.Proofs.YtopcpbokfngpeaaGreatDoor.Base
theorem cut_at (c : UInt8) (l : Bs) (i : Nat) (h : Lib.indexByte l c = i) : i < l.length ∧ l = l.take i ++ c :: l.drop (i + 1) ∧ ∀ x ∈ l.take i, x ≠ c := by
  obtain ⟨h1, h2⟩ := Lib.indexByte_some h
  obtain ⟨hi, hc⟩ := List.getElem?_eq_some_iff.1 h1
  refine ⟨hi, ?_, ?_⟩
  · conv => lhs; rw [← List.take_append_drop i l]
    rw [List.drop_eq_getElem_cons hi, hc]
  · intro x hx e
    subst e
    obtain ⟨k, hk, hxk⟩ := List.mem_iff_getElem.1 hx
    have hk' : k < i := by simp at hk; omega
    refine h2 k hk' ?_
    rw [List.getElem?_eq_getElem (by omega)]
    exact congrArg some (by simpa using hxk)
theorem none_at (c : UInt8) (l : Bs) (h : Lib.indexByte l c = -1) : ∀ x ∈ l, x ≠ c := by
  intro x hx e
  subst e
  obtain ⟨k, hk, hxk⟩ := List.mem_iff_getElem.1 hx
  exact Lib.indexByte_none h k (by rw [List.getElem?_eq_getElem hk, hxk])
theorem splitK_one (c : UInt8) : ∀ (k : Nat) (l : Bs), l.count c ≤ k → Lib.splitK [c] 0 k l = splitC c l
  | 0, l, h => by
    rw [splitC_plain c l]
    · rfl
    · intro x hx e; subst e
      have := List.count_pos_iff.2 hx
      omega
  | k + 1, l, h => by
    unfold Lib.splitK
    rw [Lib.index_one]
    have hge := Lib.indexByte_ge l c
    by_cases e : Lib.indexByte l c = -1
    · rw [if_pos (by simp [e]), splitC_plain c l (none_at c l e)]
    · obtain ⟨i, hi⟩ : ∃ i : Nat, Lib.indexByte l c = i := Int.eq_ofNat_of_zero_le (by omega)
      obtain ⟨h1, h2, h3⟩ := cut_at c l i hi
      rw [if_neg (by simpa using e), hi]
      have hd : l.drop ((i : Int).toNat + [c].length) = l.drop (i + 1) := by simp
      have hc : (l.drop (i + 1)).count c ≤ k := by
        rw [h2] at h
        rw [List.count_append, List.count_cons_self] at h
        omega
      rw [hd, splitK_one c k _ hc]
      conv => rhs; rw [h2]
      rw [splitC_cut c _ _ h3]
      simp
theorem countB_one (c : UInt8) (l : Bs) : Lib.countB (B l) (B [c]) = l.count c := by
  show Lib.count (B l).data.toList (B [c]).data.toList = _
  rw [B_data, B_data, Lib.count_one]
theorem splitB_one (c : UInt8) (l : Bs) : Lib.splitB (B [c]) 0 (Lib.countB (B l) (B [c])) (B l) = (splitC c l).map B := by
  have h := Lib.splitB_data (B [c]) 0 (Lib.countB (B l) (B [c])) (B l)
  have hc : Lib.countB (B l) (B [c]) = l.count c := countB_one c l
  rw [B_data, B_data, splitK_one c _ l (by omega)] at h
  rw [← h, List.map_map]
  conv => lhs; rw [← List.map_id (Lib.splitB (B [c]) 0 (Lib.countB (B l) (B [c])) (B l))]
  exact List.map_congr_left fun s _ => eq_B s
theorem made_strs (w : World) (xs : List ByteArray) (base : Nat) (hb : base ≤ w.heap.size) (hm : xs.length ≤ maxLen) : Kd.R Kd.string 9 (w.alloc (.cells (xs.map Value.string).toArray 9)) base (fun _ => True) (.slice (some ⟨w.heap.size, 0, none⟩) xs.length xs.length) xs := by
  refine Kd.R_of_own ?_ (fun _ _ => trivial)
  refine ⟨by simp [encs], .inr ⟨w.heap.size, xs.length, _, rfl, hb, heap_alloc_new w _, Nat.le_refl _, hm, ?_⟩⟩
  have e : (xs.map Value.string).take (xs.length * 1) = xs.map Value.string := by
    rw [Nat.mul_one]; exact List.take_of_length_le (Nat.le_of_eq (List.length_map _))
  exact ⟨by simp, e⟩
def strings_Split.f (a0 : ByteArray) (a1 : ByteArray) : Option (List ByteArray) := if a0.size < 4294967281 then (match a1.data.toList with | [c] => some ((splitC c a0.data.toList).map B) | _ => none) else none
theorem strings_Split.calls (a0 : ByteArray) (a1 : ByteArray) (r : List ByteArray) (w : World) (hT : TabM w) (h : strings_Split.f a0 a1 = some r) :
    Calls Tryz.prog 109 #[.string a0, .string a1] w fun e w' => ∃ v0_ : Value, e = .returned (v0_) ∧ Kd.R Kd.string 9 w' w.heap.size (fun _ => True) v0_ r ∧ Below w.heap.size w w' := by
  obtain ⟨l, rfl⟩ := exB a0
  obtain ⟨q, rfl⟩ := exB a1
  obtain ⟨m, hm⟩ := hT
  unfold strings_Split.f at h
  by_cases hs : (B l).size < 4294967281
  · rw [if_pos hs, B_data, B_data] at h
    match q, h with
    | [c], h =>
      obtain rfl := Option.some.inj h
      refine (Tryz.strings_Split (B l) (B [c]) m w hs hm (by simp)).mono ?_
      rintro e w' ⟨rfl, rfl⟩
      have hc : Lib.countB (B l) (B [c]) = l.count c := countB_one c l
      have hlen : Lib.countB (B l) (B [c]) + 1 = ((splitC c l).map B).length := by rw [hc, List.length_map, splitC_length]
      have hle : l.count c ≤ l.length := List.count_le_length
      rw [splitB_one, hlen]
      exact ⟨_, rfl, made_strs w _ _ (Nat.le_refl _) (by rw [← hlen, hc]; unfold maxLen; simp at hs; omega), below_alloc (Below.refl _ _) _⟩
  · rw [if_neg hs] at h; cases h
end Go.Proofs.YtopcpbokfngpeaaGreatDoor.H
namespace Go.Proofs.YtopcpbokfngpeaaGreatDoor.H
open Go.RowKit Go.Proofs.YtopcpbokfngpeaaGreatDoorW.PrintWords Go.Proofs.YtopcpbokfngpeaaGreatDoor.Base
def strings_ReplaceAll.f (a0 a1 a2 : ByteArray) : Option ByteArray := if a0.size < 4294967281 ∧ 1 ≤ a1.size ∧ a2.size ≤ a1.size then some (B (replA a1.data.toList a2.data.toList a0.data.toList)) else none
theorem strings_ReplaceAll.calls (a0 a1 a2 : ByteArray) (r : ByteArray) (w : World) (hT : TabM w) (h : strings_ReplaceAll.f a0 a1 a2 = some r) :
    Calls Tryz.prog 160 #[.string a0, .string a1, .string a2] w fun e w' => e = .returned (.string r) ∧ Below w.heap.size w w' := by
  obtain ⟨m, hm⟩ := hT
  unfold strings_ReplaceAll.f at h
  by_cases c : a0.size < 4294967281 ∧ 1 ≤ a1.size ∧ a2.size ≤ a1.size
  · rw [if_pos c] at h
    obtain rfl := Option.some.inj h
    have h1 := Lib.countB_mul_le a1 c.2.1 a0.size a0 (Nat.le_refl _)
    have h2 : Lib.countB a0 a1 * a2.size ≤ Lib.countB a0 a1 * a1.size := Nat.mul_le_mul_left _ c.2.2
    refine (Tryz.strings_ReplaceAll a0 a1 a2 m w c.1 hm c.2.1 (by omega)).mono ?_
    rintro e w' ⟨rfl, hb⟩
    have hne : a1.data.toList ≠ [] := by
      obtain ⟨o, rfl⟩ := exB a1
      have h3 := c.2.1
      rw [B_size] at h3
      rw [B_data]
      intro q; rw [q] at h3; simp at h3
    rw [replaceAll_replA _ _ _ hne]
    exact ⟨rfl, hb⟩
  · rw [if_neg c] at h; cases h
end Go.Proofs.YtopcpbokfngpeaaGreatDoor.H
namespace Go.Proofs.YtopcpbokfngpeaaGreatDoor.H
open Go.RowKit Go.Proofs.YtopcpbokfngpeaaGreatDoorW.PrintWords Go.Proofs.YtopcpbokfngpeaaGreatDoor.Base
def cutAh (c : UInt8) : Bs → Bs
  | [] => []
  | x :: t => if x = c then [] else x :: cutAh c t
def cutBe (c : UInt8) : Bs → Bs
  | [] => []
  | x :: t => if x = c then t else cutBe c t
theorem cutAh_plain (c : UInt8) (l : Bs) (h : ∀ x ∈ l, x ≠ c) : cutAh c l = l := by
  induction l with
  | nil => rfl
  | cons x t ih => unfold cutAh; rw [if_neg (h x (by simp)), ih (fun y hy => h y (by simp [hy]))]
theorem cutBe_plain (c : UInt8) (l : Bs) (h : ∀ x ∈ l, x ≠ c) : cutBe c l = [] := by
  induction l with
  | nil => rfl
  | cons x t ih => unfold cutBe; rw [if_neg (h x (by simp)), ih (fun y hy => h y (by simp [hy]))]
theorem cutAh_cut (c : UInt8) (a b : Bs) (h : ∀ x ∈ a, x ≠ c) : cutAh c (a ++ c :: b) = a := by
  induction a with
  | nil => simp [cutAh]
  | cons x t ih => rw [List.cons_append, cutAh, if_neg (h x (by simp)), ih (fun y hy => h y (by simp [hy]))]
theorem cutBe_cut (c : UInt8) (a b : Bs) (h : ∀ x ∈ a, x ≠ c) : cutBe c (a ++ c :: b) = b := by
  induction a with
  | nil => simp [cutBe]
  | cons x t ih => rw [List.cons_append, cutBe, if_neg (h x (by simp)), ih (fun y hy => h y (by simp [hy]))]
theorem cut_one (c : UInt8) (l : Bs) : Lib.cut l [c] = (cutAh c l, cutBe c l, l.contains c) := by
  unfold Lib.cut
  rw [Lib.index_one]
  have hge := Lib.indexByte_ge l c
  by_cases e : Lib.indexByte l c = -1
  · rw [if_neg (by omega)]
    have h := none_at c l e
    rw [cutAh_plain c l h, cutBe_plain c l h]
    have : l.contains c = false := by
      rw [List.contains_eq_mem]; exact decide_eq_false (fun q => h c q rfl)
    rw [this]
  · obtain ⟨i, hi⟩ : ∃ i : Nat, Lib.indexByte l c = i := Int.eq_ofNat_of_zero_le (by omega)
    obtain ⟨h1, h2, h3⟩ := cut_at c l i hi
    rw [if_pos (by omega), hi]
    have e1 : cutAh c l = l.take i := by conv => lhs; rw [h2]
                                         exact cutAh_cut c _ _ h3
    have e2 : cutBe c l = l.drop (i + 1) := by conv => lhs; rw [h2]
                                               exact cutBe_cut c _ _ h3
    have e3 : l.contains c = true := by
      rw [List.contains_eq_mem]; exact decide_eq_true (by rw [h2]; simp)
    rw [e1, e2, e3]; rfl
theorem cutAh_le (c : UInt8) (l : Bs) : (cutAh c l).length ≤ l.length := by
  induction l with
  | nil => exact Nat.le_refl _
  | cons x t ih => unfold cutAh; split <;> simp; omega
theorem cutBe_le (c : UInt8) (l : Bs) : (cutBe c l).length ≤ l.length := by
  induction l with
  | nil => exact Nat.le_refl _
  | cons x t ih => unfold cutBe; split <;> simp; omega
def strings_Cut.f (a0 a1 : ByteArray) : Option (ByteArray × ByteArray × Bool) := if a0.size < 4294967281 then (match a1.data.toList with | [c] => some (B (cutAh c a0.data.toList), B (cutBe c a0.data.toList), a0.data.toList.contains c) | _ => none) else none
theorem strings_Cut.calls (a0 a1 : ByteArray) (r : ByteArray × ByteArray × Bool) (w : World) (hT : TabM w) (h : strings_Cut.f a0 a1 = some r) :
    Calls Tryz.prog 96 #[.string a0, .string a1] w fun e w' => e = .returned (.tuple #[.string r.1, .string r.2.1, .bool r.2.2]) ∧ Below w.heap.size w w' := by
  obtain ⟨l, rfl⟩ := exB a0
  obtain ⟨q, rfl⟩ := exB a1
  obtain ⟨m, hm⟩ := hT
  unfold strings_Cut.f at h
  by_cases hs : (B l).size < 4294967281
  · rw [if_pos hs, B_data, B_data] at h
    match q, h with
    | [c], h =>
      obtain rfl := Option.some.inj h
      refine (Tryz.strings_Cut (B l) (B [c]) m w hs hm).mono ?_
      rintro e w' ⟨rfl, n, rfl⟩
      rw [B_data, B_data, cut_one]
      exact ⟨rfl, pw_below_drewN (Below.refl _ _) _⟩
  · rw [if_neg hs] at h; cases h
end Go.Proofs.YtopcpbokfngpeaaGreatDoor.H
set_option linter.unusedVariables false
namespace Go.Proofs.YtopcpbokfngpeaaGreatDoor.H
open Go.RowKit Go.Proofs.YtopcpbokfngpeaaGreatDoorW.PrintWords Go.Proofs.YtopcpbokfngpeaaGreatDoor.Base
theorem splitCells (c : UInt8) (l : Bs) (w : World) (hT : TabM w) (hs : l.length < 4294967281) :
    Calls Tryz.prog 109 #[.string (B l), .string (B [c])] w fun e w' => e = .returned (.slice (some ⟨w.heap.size, 0, none⟩) (splitC c l).length (splitC c l).length) ∧
      (∀ j (h : j < (splitC c l).length), w'.cell? ⟨w.heap.size, j, none⟩ = some (.string (B (splitC c l)[j]))) ∧ w.heap.size < w'.heap.size ∧ Below w.heap.size w w' := by
  obtain ⟨m, hm⟩ := hT
  refine (Tryz.strings_Split (B l) (B [c]) m w (by simpa using hs) hm (by simp)).mono ?_
  rintro e w' ⟨rfl, rfl⟩
  have hc : Lib.countB (B l) (B [c]) = l.count c := countB_one c l
  have hlen : Lib.countB (B l) (B [c]) + 1 = (splitC c l).length := by rw [hc, splitC_length]
  rw [splitB_one, hlen]
  refine ⟨rfl, ?_, ?_, below_alloc (Below.refl _ _) _⟩
  · intro j h
    rw [Lib.cell_of_heap (heap_alloc_new w _)]
    simp [List.getElem?_eq_getElem h]
  · show w.heap.size < (w.heap.push _).size
    simp
theorem own_below {w w' : World} {base : Nat} {e : TypeId} {size : Nat} {v : Value} {n : Nat} {xs : List Value} (h : w.ownsRow base e size v n xs) (hb : Below w.heap.size w w') : w'.ownsRow base e size v n xs :=
  h.kept (row := none) ⟨hb.os, hb.tape, hb.output, hb.size, fun k hk _ => hb.block k hk⟩ (by cases hv : v.ownBlock <;> simp)
def strV (ps : List Bs) : List Value := ps.map fun s => .string (B s)
theorem strV_len (ps : List Bs) : (strV ps).length = ps.length := by simp [strV]
set_option maxRecDepth 100000 in
theorem clip_walk (a : Addr) (n c : Nat) (w : World) (hn : n ≤ c) (hm : c ≤ maxLen) :
    Calls Tryz.prog 181 #[.slice (some a) n c] w fun e w' => e = .returned (.slice (some a) n n) ∧ w' = w := by
  go_enter Tryz.func181, Tryz.ntmps181
  have h0 : (0 : Int) ≤ (n : Int) := by omega
  have h1 : (n : Int) ≤ (n : Int) := by omega
  have h2 : (n : Int) ≤ (c : Int) := by omega
  go_wp2
  go_ret
  exact ⟨rfl, rfl⟩
set_option maxRecDepth 100000 in
theorem clip_nil_walk (w : World) :
    Calls Tryz.prog 181 #[.slice none 0 0] w fun e w' => e = .returned (.slice none 0 0) ∧ w' = w := by
  go_enter Tryz.func181, Tryz.ntmps181
  go_wp2
  go_ret
  exact ⟨rfl, rfl⟩
set_option maxRecDepth 100000 in
theorem clone_nil_walk (w : World) :
    Calls Tryz.prog 159 #[.slice none 0 0] w fun e w' => e = .returned (.slice none 0 0) ∧ w' = w := by
  go_enter Tryz.func159, Tryz.ntmps159
  go_wp2_with (go_at_call 182; refine (Tryz.slices_Clone_string_nil 0 0 _).mono ?_; rintro e w1 ⟨rfl, hw1⟩; subst w1)
  go_wp2_with (go_at_call 181; refine (clip_nil_walk _).mono ?_; rintro e w1 ⟨rfl, hw1⟩; subst w1)
  go_ret
  exact ⟨rfl, rfl⟩
theorem Q_of_strs {w : World} {base : Nat} {v : Value} {ps : List Bs} (h : QRow w base 9 1 v ps.length (strV ps)) : Kd.Q Kd.string 9 w base (fun _ => True) v (ps.map B) := by
  refine ⟨fun _ _ => trivial, encs Value.string (ps.map B), ?_, Kd.reps_scalar (ps.map B)⟩
  have e : encs Value.string (ps.map B) = strV ps := by simp [encs, strV]
  rw [List.length_map, e]; exact h
set_option maxRecDepth 100000 in
theorem clone_walk (base : Nat) (v : Value) (ps : List Bs) (w : World) (hown : w.ownsRow base 9 1 v ps.length (strV ps)) (hpos : 0 < ps.length) (hbig : ps.length * 16 ≤ 140737488355328) :
    Calls Tryz.prog 159 #[v] w fun e w' => ∃ v', e = .returned v' ∧ QRow w' w.heap.size 9 1 v' ps.length (strV ps) ∧ Below w.heap.size w w' := by
  obtain ⟨g, cap, rfl⟩ := Go.Joins.ownsRow_form hown hpos
  have hcl := hown.cells (g := g) rfl
  have hz : ∀ j, j < (ps.map B).length → w.cell? ⟨g, 0 + j, none⟩ = some (.string ((ps.map B).getD j ByteArray.empty)) := by
    intro j hj
    have hj' : j < ps.length := by simpa using hj
    have := hcl j (.string (B ps[j])) (by simp [strV, List.getElem?_eq_getElem hj'])
    rw [List.getD_eq_getElem?_getD, List.getElem?_eq_getElem hj]
    rw [add_plain] at this
    rw [Nat.zero_add]
    simpa using this
  have hC := Tryz.slices_Clone_string g 0 ps.length cap (ps.map B) w (by simp) hbig hz
  have e : ((ps.map B).take ps.length).map Value.string = strV ps := by rw [List.take_of_length_le (by simp)]; simp [strV]
  rw [e] at hC
  have HC := Lib.hid hC
  clear hC hz hcl hown
  go_enter Tryz.func159, Tryz.ntmps159
  go_wp2_with fail
  refine HC.out.mono ?_
  rintro e w1 ⟨v', rfl, ho, hne, hb⟩
  obtain ⟨g', cap', rfl⟩ := Go.Joins.ownsRow_form ho hpos
  obtain ⟨hx, h2⟩ := ho
  rcases h2 with ⟨h0, _⟩ | ⟨g1, c1, cur, hv, hg, hh, h1, h3, hsz, htk⟩
  · cases h0
  cases hv
  go_wp2_with fail
  refine (clip_walk ⟨g', 0, none⟩ ps.length cap' w1 h1 h3).mono ?_
  rintro e w2 ⟨rfl, rfl⟩
  go_wp2
  go_ret
  refine ⟨.slice (some ⟨g', 0, none⟩) ps.length ps.length, rfl, ⟨hx, .inr ⟨g', 0, ps.length, cur, by rw [Nat.zero_mul], hg, hh, Nat.le_refl _, by omega, by rw [hsz]; omega, by rw [Nat.zero_mul, List.drop_zero]; exact htk⟩⟩, hb⟩
end Go.Proofs.YtopcpbokfngpeaaGreatDoor.H
namespace Go.Proofs.YtopcpbokfngpeaaGreatDoor.H
open Go.RowKit Go.Proofs.YtopcpbokfngpeaaGreatDoorW.PrintWords Go.Proofs.YtopcpbokfngpeaaGreatDoor.Base
def joinB (sep : Bs) : List Bs → Bs
  | [] => []
  | [x] => x
  | x :: y :: r => x ++ sep ++ joinB sep (y :: r)
theorem joinB_snoc (sep : Bs) : ∀ (ls : List Bs) (s : Bs), ls ≠ [] → joinB sep (ls ++ [s]) = joinB sep ls ++ sep ++ s
  | [], s, h => absurd rfl h
  | [x], s, _ => rfl
  | x :: y :: r, s, _ => by
    have ih := joinB_snoc sep (y :: r) s (by simp)
    show x ++ sep ++ joinB sep (y :: (r ++ [s])) = _
    rw [show y :: (r ++ [s]) = (y :: r) ++ [s] from rfl, ih]
    simp [joinB]
theorem joinB_len (sep : Bs) : ∀ (ls : List Bs), (joinB sep ls).length = (ls.map List.length).sum + sep.length * (ls.length - 1)
  | [] => by simp [joinB]
  | [x] => by simp [joinB]
  | x :: y :: r => by
    have ih := joinB_len sep (y :: r)
    simp only [joinB, List.length_append, ih, List.map_cons, List.sum_cons, List.length_cons]
    have : r.length + 1 + 1 - 1 = (r.length + 1 - 1) + 1 := by omega
    rw [this, Nat.mul_add]; omega
def bss (l : List ByteArray) : List Bs := l.map fun s => s.data.toList
theorem jp_app (a b : Bs) : Lib.byteCells (a ++ b) = Lib.byteCells a ++ Lib.byteCells b := by simp [Lib.byteCells]
theorem jp_len (a : Bs) : (Lib.byteCells a).length = a.length := by simp [Lib.byteCells]
def sums (ls : List Bs) : Nat := (ls.map List.length).sum
theorem sums_take (ls : List Bs) (k : Nat) (h : k < ls.length) : sums (ls.take (k + 1)) = sums (ls.take k) + ls[k].length := by
  unfold sums; rw [List.take_succ_eq_append_getElem h, List.map_append, List.sum_append]; simp
theorem sums_le (ls : List Bs) (k : Nat) : sums (ls.take k) ≤ sums ls := by
  conv => rhs; rw [← List.take_append_drop k ls]
  unfold sums; rw [List.map_append, List.sum_append]; omega
theorem join_take (sep : Bs) (ls : List Bs) (k : Nat) (h : k + 1 < ls.length) : joinB sep (ls.take (k + 2)) = joinB sep (ls.take (k + 1)) ++ sep ++ ls[k + 1] := by
  rw [List.take_succ_eq_append_getElem h, joinB_snoc]
  intro e
  have := congrArg List.length e
  rw [List.length_take, List.length_nil] at this
  omega
theorem join_take_le (sep : Bs) (ls : List Bs) (k : Nat) : (joinB sep (ls.take k)).length ≤ (joinB sep ls).length := by
  rw [joinB_len, joinB_len]
  have h1 := sums_le ls k
  unfold sums at h1
  have h2 : sep.length * ((ls.take k).length - 1) ≤ sep.length * (ls.length - 1) := Nat.mul_le_mul_left _ (by simp; omega)
  omega
set_option maxHeartbeats 4000000 in
set_option maxRecDepth 100000 in
theorem join_walk (A0 : Option Addr) (c0 : Nat) (l0 : List ByteArray) (sep : Bs) (w : World) (hr0 : Kd.C Kd.string w A0 l0.length l0) (hc0 : l0.length ≤ c0) (hm : l0.length ≤ 1099511627776) (hl : (joinB sep (bss l0)).length ≤ 1099511627776) (hmany : 2 ≤ l0.length) (hsep : 0 < sep.length) :
    Calls Tryz.prog 75 #[.slice A0 l0.length c0, .string (B sep)] w fun e w' => e = .returned (.string (B (joinB sep (bss l0)))) ∧ Below w.heap.size w w' := by
  have hbl : (bss l0).length = l0.length := by simp [bss]
  have hln := joinB_len sep (bss l0)
  have hln1 : (joinB sep (bss l0)).length = sums (bss l0) + sep.length * (l0.length - 1) := by rw [hln, hbl]; rfl
  clear hln
  obtain ⟨T, hT⟩ : ∃ T, T = sep.length * (l0.length - 1) := ⟨_, rfl⟩
  have hTi : (sep.length : Int) * ((l0.length : Int) - 1) = (T : Int) := by
    rw [hT, show ((l0.length : Int) - 1) = ((l0.length - 1 : Nat) : Int) by omega]; exact (Int.natCast_mul _ _).symm
  have hTl : T ≤ 1099511627776 := by omega
  have hsT : sep.length ≤ T := by rw [hT]; exact Nat.le_mul_of_pos_right _ (by omega)
  have hdv : ¬ 9223372036854775807 / ((l0.length : Int) - 1) ≤ (sep.length : Int) := by
    intro h
    have h1 : 9223372036854775807 < ((sep.length : Int) + 1) * ((l0.length : Int) - 1) := Int.lt_mul_of_ediv_lt (by omega) (by omega)
    rw [Int.add_mul, hTi] at h1
    omega
  have hw1 : wrap64 (T : Int) = (T : Int) := w64 (by omega) (by omega)
  obtain ⟨ad, e0, _⟩ := Kd.at_string hr0 ((0 : Nat) : Int) (by omega) (by omega)
  subst e0
  have hcl : ∀ wr, Below w.heap.size w wr → ∀ k, (hk : k < l0.length) → wr.cell? (ad.add k) = some (.string (B ((bss l0)[k]'(by omega)))) := by
    intro wr hb k hk
    obtain ⟨ad', e0, hcell⟩ := Kd.at_string (Kd.C_below hr0 hb) (k : Int) (by omega) (by omega)
    obtain rfl : ad = ad' := Option.some.inj e0
    have hrd : rdOf ByteArray.empty l0 (k : Int) = l0[k] := by unfold rdOf; rw [Int.toNat_natCast, List.getD_eq_getElem?_getD, List.getElem?_eq_getElem hk]; rfl
    rw [hrd, Int.toNat_natCast] at hcell
    rw [hcell]
    unfold bss
    rw [List.getElem_map]
    exact congrArg (fun x => some (Value.string x)) (eq_B l0[k])
  have HC := Lib.hid hcl
  have HTI := Lib.hid hTi
  have HT := Lib.hid hT
  have HDV := Lib.hid hdv
  have HW := Lib.hid hw1
  have HL := Lib.hid hln1
  have HTL := Lib.hid hTl
  have HJ := Lib.hid hl
  clear hcl hr0 hT hTi hdv hw1 hln1 hTl hsT hl
  have n0 : ((l0.length : Int) == 0) = false := by rw [beq_eq_false_iff_ne]; omega
  have n1 : ((l0.length : Int) == 1) = false := by rw [beq_eq_false_iff_ne]; omega
  go_enter Tryz.func75, Tryz.ntmps75
  go_wp2_with fail
  go_loopw [5, 41] (fun n i wr => wr = w ∧ ∃ k s : Nat, k ≤ l0.length ∧ i = .int .i64 k ∧ n = .int .i64 s ∧ s = T + sums ((bss l0).take k)) (fun _ i _ => l0.length - (intOf i).toNat)
  case atStart => exact ⟨rfl, 0, T, by omega, rfl, by rw [HTI.out, HW.out, HW.out], by simp [sums]⟩
  case round =>
    obtain ⟨hwr, k, s, hk, rfl, rfl, hsum⟩ := hrel
    have hwr' := hwr.symm
    clear hwr
    subst hwr'
    by_cases hlt : k < l0.length
    · have hcell := HC.out w (Below.refl _ w) k hlt
      have hst := sums_take (bss l0) k (by omega)
      have hle := sums_le (bss l0) (k + 1)
      have hl := HJ.out
      have hln1 := HL.out
      have hTl := HTL.out
      generalize hq : (bss l0)[k]'(by omega) = q at hcell hst
      have hw2 : wrap64 (9223372036854775807 - (s : Int)) = 9223372036854775807 - (s : Int) := w64 (by omega) (by omega)
      have hov : ¬ (9223372036854775807 - (s : Int)) < (q.length : Int) := by omega
      have hwq : wrap64 ((s : Int) + (q.length : Int)) = ((s + q.length : Nat) : Int) := by rw [w64 (by omega) (by omega)]; omega
      have HS := Lib.hid hst
      have HM := Lib.hid hsum
      clear hst hq hsum hle hl hln1 hTl
      go_wp2_with fail
      go_roundw
      case rel => exact ⟨trivial, k + 1, s + q.length, by omega, by go_num, by first | rfl | rw [hwq] | (congr 1; omega), by rw [HM.out, HS.out]; omega⟩
      case measure => simp [intOf]; omega
    · obtain rfl : k = l0.length := by omega
      have hs : s ≤ 1099511627776 := by
        have hl := HJ.out
        have hln1 := HL.out
        have hT := HT.out
        rw [hsum, List.take_of_length_le (by omega)]; omega
      clear hsum
      go_wp2_with fail
      refine (Tryz.Builder_Grow_fresh w.heap.size w.heap.size s _ (Nat.le_refl _) (heap_alloc_new w _) (by simp) (by omega)).mono ?_
      rintro e w1 ⟨rfl, h1, hb1⟩
      have hw1 : Below w.heap.size w w1 := ((Below.refl _ w).alloc (Nat.le_refl _) _).trans hb1
      have hz1 := hw1.size
      have hc0 : w1.cell? ad = some (.string (B ((bss l0)[0]'(by omega)))) := HC.out w1 hw1 0 (by omega)
      have hl1 : ((bss l0)[0]'(by omega)).length ≤ 1099511627776 := by
        have h1 := HJ.out
        have h2 := HL.out
        have h3 := sums_le (bss l0) (0 + 1)
        have h4 := sums_take (bss l0) 0 (by omega)
        omega
      have hj1 : joinB sep ((bss l0).take 1) = (bss l0)[0]'(by omega) := by
        rw [List.take_succ_eq_append_getElem (show 0 < (bss l0).length by omega)]; rfl
      generalize hq : (bss l0)[0]'(by omega) = q at hc0 hl1 hj1
      have HQ := Lib.hid hj1
      clear hj1 hq hb1
      go_wp2_with fail
      refine (Builder_WriteString w.heap.size w.heap.size [] (B q) w1 (Or.inr h1) (by simp; omega) hz1).mono ?_
      rintro e w2 ⟨rfl, h2, hb2⟩
      have hw2 := hw1.trans hb2
      have HB : Lib.IsBuilder 101 5 w.heap.size w.heap.size (Lib.byteCells (joinB sep ((bss l0).take (0 + 1)))) w2 := by
        refine Or.inr ?_
        rw [show (0 + 1) = 1 from rfl, HQ.out]
        exact h2
      clear h1 h2 hc0 hb2 hw1 hz1 HQ hl1
      have hm1 : 1 ≤ l0.length := by omega
      go_wp2_with fail
      go_loopw [10, 65] (fun _ i wx => ∃ k : Nat, k + 1 ≤ l0.length ∧ i = .int .i64 k ∧ Lib.IsBuilder 101 5 w.heap.size w.heap.size (Lib.byteCells (joinB sep ((bss l0).take (k + 1)))) wx ∧ Below w.heap.size w wx) (fun _ i _ => l0.length - (intOf i).toNat)
      case atStart => exact ⟨0, by omega, rfl, HB, hw2⟩
      case round =>
        obtain ⟨k, hk, rfl, hbld, hbw⟩ := hrel
        by_cases hlt : k + 1 < l0.length
        · have hst := join_take sep (bss l0) k (by omega)
          have hmx := join_take_le sep (bss l0) (k + 2)
          have ea : ad.add (k + 1) = ⟨ad.block, ad.off + 1 + k, none⟩ := by simp [Addr.add]; omega
          have hcell := HC.out wr hbw (k + 1) hlt
          rw [ea] at hcell
          generalize hq : (bss l0)[k + 1]'(by omega) = q at hcell hst
          have hl := HJ.out
          rw [hst, List.length_append, List.length_append] at hmx
          have hx1 : (joinB sep ((bss l0).take (k + 1))).length + sep.length ≤ 140737488355328 := by omega
          have hx2 : ((joinB sep ((bss l0).take (k + 1))).length + sep.length) + q.length ≤ 140737488355328 := by omega
          have HS := Lib.hid hst
          have hwz := hbw.size
          clear hst hmx hq hl ea
          go_wp2_with fail
          refine (Builder_WriteString w.heap.size w.heap.size _ (B sep) wr hbld (by simpa [jp_len] using hx1) hwz).mono ?_
          rintro e w5 ⟨rfl, h5, hb5⟩
          have hbw5 := hbw.trans hb5
          have hwz5 := hbw5.size
          clear hcell hbld hbw hb5 hwz
          go_wp2_with fail
          refine (Builder_WriteString w.heap.size w.heap.size _ (B q) w5 (Or.inr h5) (by simp [jp_len, Lib.strCells_length]; omega) hwz5).mono ?_
          rintro e w6 ⟨rfl, h6, hb6⟩
          have hbw6 := hbw5.trans hb6
          clear h5 hb6 hbw5 hwz5
          go_wp2_with fail
          go_roundw
          case rel => exact ⟨k + 1, by omega, by go_num, Or.inr (by rw [HS.out, jp_app, jp_app]; exact h6), hbw6⟩
          case measure => simp [intOf]; omega
        · obtain rfl : k = l0.length - 1 := by omega
          have hwz := hbw.size
          rw [List.take_of_length_le (by omega)] at hbld
          go_wp2_with fail
          refine (Tryz.Builder_String_any w.heap.size w.heap.size (joinB sep (bss l0)) wr hbld hwz).mono ?_
          rintro e w5 ⟨rfl, hb5⟩
          go_wp2_with fail
          go_ret
          exact ⟨rfl, hbw.trans hb5⟩
def strings_Join.f (l0 : List ByteArray) (a1 : ByteArray) : Option (ByteArray) := if 0 < a1.size ∧ l0.length ≤ 1099511627776 ∧ (joinB a1.data.toList (bss l0)).length ≤ 1099511627776 then some (B (joinB a1.data.toList (bss l0))) else none
set_option maxRecDepth 100000 in
theorem strings_Join.calls (A0 : Option Addr) (c0 : Nat) (l0 : List ByteArray) (a1 : ByteArray) (r : ByteArray) (w : World) (hr0 : Kd.C Kd.string w A0 l0.length l0) (hc0 : l0.length ≤ c0) (h : strings_Join.f l0 a1 = some r) :
    Calls Tryz.prog 75 #[.slice A0 l0.length c0, .string a1] w fun e w' => e = .returned (.string r) ∧ Below w.heap.size w w' := by
  unfold strings_Join.f at h
  split at h
  case isFalse => cases h
  rename_i c
  obtain rfl := Option.some.inj h
  obtain ⟨sep, rfl⟩ := exB a1
  rw [B_data] at c ⊢
  rw [B_size] at c
  clear h
  by_cases h2 : 2 ≤ l0.length
  · exact join_walk A0 c0 l0 sep w hr0 hc0 c.2.1 c.2.2 h2 c.1
  · by_cases h1 : l0.length = 1
    · match l0, h1, hr0, hc0 with
      | [x], _, hr0, hc0 =>
        obtain ⟨ad, e0, hcell⟩ := Kd.at_string hr0 ((0 : Nat) : Int) (by omega) (by simp)
        subst e0
        have hc : w.cell? ad = some (.string x) := hcell
        have n0 : (1 : Int) ≠ 0 := by omega
        have hr : B (joinB sep (bss [x])) = x := (eq_B x).symm
        rw [hr]
        clear hr c hr0 hcell h2
        simp only [List.length_cons, List.length_nil] at *
        go_enter Tryz.func75, Tryz.ntmps75
        go_wp2_with fail
        go_ret
        exact ⟨rfl, Below.refl _ _⟩
    · match l0, h1, h2, hr0, hc0 with
      | [], _, _, hr0, hc0 =>
        clear c hr0 h1 h2
        have hr : B (joinB sep (bss [])) = ⟨#[]⟩ := rfl
        rw [hr]
        simp only [List.length_nil] at *
        go_enter Tryz.func75, Tryz.ntmps75
        go_wp2_with fail
        go_ret
        exact ⟨rfl, Below.refl _ _⟩
      | [x], h1, _, _, _ => exact absurd rfl h1
      | x :: y :: t, _, h2, _, _ => exact absurd (by simp) h2
end Go.Proofs.YtopcpbokfngpeaaGreatDoor.H
namespace Go.Proofs.YtopcpbokfngpeaaGreatDoor.H
open Go.RowKit Go.Proofs.YtopcpbokfngpeaaGreatDoorW.PrintWords Go.Proofs.YtopcpbokfngpeaaGreatDoor.Base
theorem below_grow (w : World) (q : Nat) (os : Array Obj) : Below w.heap.size w (Go.Sort.grow (w.drewN q) os) :=
  ⟨rfl, rfl, rfl, by first | (simp [Go.Sort.grow]; done) | (simp [Go.Sort.grow]; omega), fun i hi => by
    show ((w.drewN q).heap ++ os)[i]? = _
    rw [Array.getElem?_append_left (by show i < w.heap.size; omega)]
    rfl⟩
def strconv_Itoa.f (a0 : Int) : Option ByteArray := if -9223372036854775808 ≤ a0 ∧ a0 ≤ 9223372036854775807 then some (B (Lib.itoa a0)) else none
theorem strconv_Itoa.calls (a0 : Int) (r : ByteArray) (w : World) (hT : TabI w) (h : strconv_Itoa.f a0 = some r) :
    Calls Tryz.prog 54 #[.int .i64 a0] w fun e w' => e = .returned (.string r) ∧ Below w.heap.size w w' := by
  unfold strconv_Itoa.f at h
  by_cases c : -9223372036854775808 ≤ a0 ∧ a0 ≤ 9223372036854775807
  · rw [if_pos c] at h
    obtain rfl := Option.some.inj h
    refine (Tryz.strconv_Itoa a0 c.1 c.2 w hT).mono ?_
    rintro e w' ⟨rfl, k, os, rfl⟩
    exact ⟨rfl, below_grow w k os⟩
  · rw [if_neg c] at h; cases h
end Go.Proofs.YtopcpbokfngpeaaGreatDoor.H
set_option maxHeartbeats 8000000
set_option maxRecDepth 100000
namespace Go.Proofs.YtopcpbokfngpeaaGreatDoor.Lp
open Go.RowKit Go.Proofs.YtopcpbokfngpeaaGreatDoor.H Go.Proofs.YtopcpbokfngpeaaGreatDoorW.PrintWords Go.Proofs.YtopcpbokfngpeaaGreatDoorW.PrintLast Go.Proofs.YtopcpbokfngpeaaGreatDoorW.PrintMore
attribute [local go_sem] max2_int min2_int max_two min_two max_three min_three max_four min_four   -- for this text's walks alone
set_option linter.unusedVariables false
set_option linter.unusedSimpArgs false
def errW : Option Int → Value
 | none => .nilIface
 | some c => .iface 0 (.int .i64 c)
theorem errW_none : errW none = .nilIface := rfl
theorem errW_some (c : Int) : errW (some c) = .iface 0 (.int .i64 c) := rfl
theorem info5 : (Tryz.prog.info? 5).map (fun i => (i.zero, i.size, i.bytes)) = some (some (.int .u8 0), 1, 1) := by kernel_rfl
theorem info9 : (Tryz.prog.info? 9).map (fun i => (i.zero, i.size, i.bytes)) = some (some (.string ⟨#[]⟩), 1, 16) := by kernel_rfl
end Go.Proofs.YtopcpbokfngpeaaGreatDoor.Lp
