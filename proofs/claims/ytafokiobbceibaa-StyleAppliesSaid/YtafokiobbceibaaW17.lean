/-
  Walk: the law StyleKnown.
-/
import Derived.Test.YtafokiobbceibaaRows
import Derived.Test.YtafokiobbceibaaLt
import Derived.Test.YtafokiobbceibaaDefs
import Derived.Test.YtafokiobbceibaaBits
import Derived.Test.YtafokiobbceibaaMaps
import Derived.Test.YtafokiobbceibaaW2
import Derived.Test.YtafokiobbceibaaW5
import Derived.Test.YtafokiobbceibaaW6
import Derived.Test.YtafokiobbceibaaW7
import Derived.Test.YtafokiobbceibaaRun
import Derived.Test.YtafokiobbceibaaW8
import Derived.Test.YtafokiobbceibaaW9
import Derived.Test.YtafokiobbceibaaW10
import Derived.Test.YtafokiobbceibaaW11
import Derived.Test.YtafokiobbceibaaW12
import Derived.WalkKit
import Derived.WalkSpells
import Derived.WalkLawsBesides
import Derived.Handy
import Derived.Laws.EntriesVeiled
import Derived.Lib.Hide
import Derived.Deep.Light
import Derived.Deep.LoopGhost
import Derived.BigGuardPart
import Derived.BigQuiet
import Derived.Deep.QuietTactic
import Derived.Deep.RegionHeld3
import Derived.Deep.DeepCutAuto
import Derived.Test.YtafokiobbceibaaReg
import Derived.Test.YtafokiobbceibaaReg3
import Derived.Test.YtafokiobbceibaaReg4
namespace Go.Proofs.Ytafokiobbceibaa
open Go.RowKit

theorem kchk_0 (w : World) : Calls Try.prog 12 #[.agg #[.int .i64 255, .int .i64 5, .int .i64 0, .int .i64 0, .int .i64 0, .int .i64 0, .int .i64 0, .int .i64 0]] w (Ret (.int .i64 0) w) := by
  have h := check_any 255 5 0 0 0 0 0 0 (by unfold In64; omega) w
  rw [show stErr 255 5 0 0 0 0 0 0 = 0 by kernel_rfl] at h
  exact h
theorem kchk_1 (w : World) : Calls Try.prog 12 #[.agg #[.int .i64 256, .int .i64 0, .int .i64 0, .int .i64 0, .int .i64 0, .int .i64 0, .int .i64 0, .int .i64 0]] w (Ret (.int .i64 140) w) := by
  have h := check_any 256 0 0 0 0 0 0 0 (by unfold In64; omega) w
  rw [show stErr 256 0 0 0 0 0 0 0 = 140 by kernel_rfl] at h
  exact h
theorem kchk_2 (w : World) : Calls Try.prog 12 #[.agg #[.int .i64 (-1), .int .i64 0, .int .i64 0, .int .i64 0, .int .i64 0, .int .i64 0, .int .i64 0, .int .i64 0]] w (Ret (.int .i64 140) w) := by
  have h := check_any (-1) 0 0 0 0 0 0 0 (by unfold In64; omega) w
  rw [show stErr (-1) 0 0 0 0 0 0 0 = 140 by kernel_rfl] at h
  exact h
theorem kchk_3 (w : World) : Calls Try.prog 12 #[.agg #[.int .i64 0, .int .i64 6, .int .i64 0, .int .i64 0, .int .i64 0, .int .i64 0, .int .i64 0, .int .i64 0]] w (Ret (.int .i64 140) w) := by
  have h := check_any 0 6 0 0 0 0 0 0 (by unfold In64; omega) w
  rw [show stErr 0 6 0 0 0 0 0 0 = 140 by kernel_rfl] at h
  exact h
theorem kchk_4 (w : World) : Calls Try.prog 12 #[.agg #[.int .i64 0, .int .i64 (-1), .int .i64 9, .int .i64 0, .int .i64 0, .int .i64 0, .int .i64 0, .int .i64 0]] w (Ret (.int .i64 140) w) := by
  have h := check_any 0 (-1) 9 0 0 0 0 0 (by unfold In64; omega) w
  rw [show stErr 0 (-1) 9 0 0 0 0 0 = 140 by kernel_rfl] at h
  exact h
theorem kchk_5 (w : World) : Calls Try.prog 12 #[.agg #[.int .i64 0, .int .i64 0, .int .i64 9, .int .i64 0, .int .i64 0, .int .i64 0, .int .i64 0, .int .i64 0]] w (Ret (.int .i64 130) w) := by
  have h := check_any 0 0 9 0 0 0 0 0 (by unfold In64; omega) w
  rw [show stErr 0 0 9 0 0 0 0 0 = 130 by kernel_rfl] at h
  exact h
theorem kchk_6 (w : World) : Calls Try.prog 12 #[.agg #[.int .i64 0, .int .i64 0, .int .i64 0, .int .i64 0, .int .i64 9, .int .i64 0, .int .i64 0, .int .i64 0]] w (Ret (.int .i64 130) w) := by
  have h := check_any 0 0 0 0 9 0 0 0 (by unfold In64; omega) w
  rw [show stErr 0 0 0 0 9 0 0 0 = 130 by kernel_rfl] at h
  exact h
theorem kchk_7 (w : World) : Calls Try.prog 12 #[.agg #[.int .i64 0, .int .i64 0, .int .i64 0, .int .i64 0, .int .i64 0, .int .i64 0, .int .i64 9, .int .i64 0]] w (Ret (.int .i64 130) w) := by
  have h := check_any 0 0 0 0 0 0 9 0 (by unfold In64; omega) w
  rw [show stErr 0 0 0 0 0 0 9 0 = 130 by kernel_rfl] at h
  exact h
theorem kpen_0 (w : World) : Calls Try.prog 14 #[.agg #[.int .i64 39, .int .i64 4, .int .i64 0, .int .i64 0, .int .i64 0, .string ⟨#[]⟩]] w (Ret (.int .i64 0) w) := by
  have h := checkPen_any 39 4 0 0 0 ⟨#[]⟩ (by unfold In64; omega) w
  rw [show pnErr 39 4 0 0 0 ⟨#[]⟩ = 0 by kernel_rfl] at h
  exact h
theorem kpen_1 (w : World) : Calls Try.prog 14 #[.agg #[.int .i64 39, .int .i64 6, .int .i64 0, .int .i64 0, .int .i64 0, .string ⟨#[]⟩]] w (Ret (.int .i64 0) w) := by
  have h := checkPen_any 39 6 0 0 0 ⟨#[]⟩ (by unfold In64; omega) w
  rw [show pnErr 39 6 0 0 0 ⟨#[]⟩ = 0 by kernel_rfl] at h
  exact h
theorem kpen_2 (w : World) : Calls Try.prog 14 #[.agg #[.int .i64 39, .int .i64 4, .int .i64 1, .int .i64 0, .int .i64 0, .string ⟨#[]⟩]] w (Ret (.int .i64 141) w) := by
  have h := checkPen_any 39 4 1 0 0 ⟨#[]⟩ (by unfold In64; omega) w
  rw [show pnErr 39 4 1 0 0 ⟨#[]⟩ = 141 by kernel_rfl] at h
  exact h
theorem kpen_3 (w : World) : Calls Try.prog 14 #[.agg #[.int .i64 39, .int .i64 7, .int .i64 0, .int .i64 0, .int .i64 0, .string ⟨#[]⟩]] w (Ret (.int .i64 141) w) := by
  have h := checkPen_any 39 7 0 0 0 ⟨#[]⟩ (by unfold In64; omega) w
  rw [show pnErr 39 7 0 0 0 ⟨#[]⟩ = 141 by kernel_rfl] at h
  exact h
theorem kpen_4 (w : World) : Calls Try.prog 14 #[.agg #[.int .i64 39, .int .i64 (-1), .int .i64 0, .int .i64 0, .int .i64 0, .string ⟨#[]⟩]] w (Ret (.int .i64 141) w) := by
  have h := checkPen_any 39 (-1) 0 0 0 ⟨#[]⟩ (by unfold In64; omega) w
  rw [show pnErr 39 (-1) 0 0 0 ⟨#[]⟩ = 141 by kernel_rfl] at h
  exact h
theorem kpen_5 (w : World) : Calls Try.prog 14 #[.agg #[.int .i64 39, .int .i64 0, .int .i64 1, .int .i64 0, .int .i64 0, .string ⟨#[]⟩]] w (Ret (.int .i64 141) w) := by
  have h := checkPen_any 39 0 1 0 0 ⟨#[]⟩ (by unfold In64; omega) w
  rw [show pnErr 39 0 1 0 0 ⟨#[]⟩ = 141 by kernel_rfl] at h
  exact h
theorem kpen_6 (w : World) : Calls Try.prog 14 #[.agg #[.int .i64 39, .int .i64 1, .int .i64 0, .int .i64 0, .int .i64 0, .string ⟨#[]⟩]] w (Ret (.int .i64 141) w) := by
  have h := checkPen_any 39 1 0 0 0 ⟨#[]⟩ (by unfold In64; omega) w
  rw [show pnErr 39 1 0 0 0 ⟨#[]⟩ = 141 by kernel_rfl] at h
  exact h
theorem kpen_7 (w : World) : Calls Try.prog 14 #[.agg #[.int .i64 39, .int .i64 1, .int .i64 128, .int .i64 0, .int .i64 0, .string ⟨#[]⟩]] w (Ret (.int .i64 0) w) := by
  have h := checkPen_any 39 1 128 0 0 ⟨#[]⟩ (by unfold In64; omega) w
  rw [show pnErr 39 1 128 0 0 ⟨#[]⟩ = 0 by kernel_rfl] at h
  exact h
theorem kpen_8 (w : World) : Calls Try.prog 14 #[.agg #[.int .i64 39, .int .i64 1, .int .i64 256, .int .i64 0, .int .i64 0, .string ⟨#[]⟩]] w (Ret (.int .i64 141) w) := by
  have h := checkPen_any 39 1 256 0 0 ⟨#[]⟩ (by unfold In64; omega) w
  rw [show pnErr 39 1 256 0 0 ⟨#[]⟩ = 141 by kernel_rfl] at h
  exact h
theorem kpen_9 (w : World) : Calls Try.prog 14 #[.agg #[.int .i64 39, .int .i64 2, .int .i64 2, .int .i64 0, .int .i64 0, .string ⟨#[]⟩]] w (Ret (.int .i64 141) w) := by
  have h := checkPen_any 39 2 2 0 0 ⟨#[]⟩ (by unfold In64; omega) w
  rw [show pnErr 39 2 2 0 0 ⟨#[]⟩ = 141 by kernel_rfl] at h
  exact h
theorem kpen_10 (w : World) : Calls Try.prog 14 #[.agg #[.int .i64 39, .int .i64 2, .int .i64 128, .int .i64 0, .int .i64 0, .string ⟨#[]⟩]] w (Ret (.int .i64 0) w) := by
  have h := checkPen_any 39 2 128 0 0 ⟨#[]⟩ (by unfold In64; omega) w
  rw [show pnErr 39 2 128 0 0 ⟨#[]⟩ = 0 by kernel_rfl] at h
  exact h
theorem kpen_11 (w : World) : Calls Try.prog 14 #[.agg #[.int .i64 39, .int .i64 3, .int .i64 (-1), .int .i64 0, .int .i64 0, .string ⟨#[]⟩]] w (Ret (.int .i64 141) w) := by
  have h := checkPen_any 39 3 (-1) 0 0 ⟨#[]⟩ (by unfold In64; omega) w
  rw [show pnErr 39 3 (-1) 0 0 ⟨#[]⟩ = 141 by kernel_rfl] at h
  exact h
theorem kpen_12 (w : World) : Calls Try.prog 14 #[.agg #[.int .i64 1, .int .i64 0, .int .i64 0, .int .i64 0, .int .i64 0, .string ⟨#[]⟩]] w (Ret (.int .i64 141) w) := by
  have h := checkPen_any 1 0 0 0 0 ⟨#[]⟩ (by unfold In64; omega) w
  rw [show pnErr 1 0 0 0 0 ⟨#[]⟩ = 141 by kernel_rfl] at h
  exact h
theorem kpen_13 (w : World) : Calls Try.prog 14 #[.agg #[.int .i64 39, .int .i64 0, .int .i64 0, .int .i64 0, .int .i64 0, .string ⟨#[]⟩]] w (Ret (.int .i64 0) w) := by
  have h := checkPen_any 39 0 0 0 0 ⟨#[]⟩ (by unfold In64; omega) w
  rw [show pnErr 39 0 0 0 0 ⟨#[]⟩ = 0 by kernel_rfl] at h
  exact h

set_option maxHeartbeats 2000000 in
theorem apply_l (a u fk fn bk bn lk ln : Int) (kd n m ck cn : Int) (s : ByteArray) (a' u' fk' fn' bk' bn' lk' ln'  e : Int) (hi : In64 a) (hm : In64 m) (hv : runV ⟨a, u, fk, fn, bk, bn, lk, ln⟩ [⟨kd, n, m, ck, cn, s⟩] = .tuple #[.agg #[.int .i64 a', .int .i64 u', .int .i64 fk', .int .i64 fn', .int .i64 bk', .int .i64 bn', .int .i64 lk', .int .i64 ln'], .int .i64 e]) (w : World) : Calls Try.prog 19 #[.agg #[.int .i64 a, .int .i64 u, .int .i64 fk, .int .i64 fn, .int .i64 bk, .int .i64 bn, .int .i64 lk, .int .i64 ln], .agg #[.int .i64 kd, .int .i64 n, .int .i64 m, .int .i64 ck, .int .i64 cn, .string s]] w (Ret (.tuple #[.agg #[.int .i64 a', .int .i64 u', .int .i64 fk', .int .i64 fn', .int .i64 bk', .int .i64 bn', .int .i64 lk', .int .i64 ln'], .int .i64 e]) w) := by
  have hr := fun (B : Nat) (W : World) (hb : B < W.heap.size) (hp : PensIn W B 0 [⟨kd, n, m, ck, cn, s⟩]) => run_any a u fk fn bk bn lk ln hi [⟨kd, n, m, ck, cn, s⟩] B 0 1 W (by simp) hb hp
  rw [hv] at hr
  have Hr := Lib.hid hr
  have Hm := Lib.hid hm
  clear hr hv hi hm
  go_enter Try.func19, Try.ntmps19
  go_wp2_with fail
  refine Calls.mono (Hr.out _ _ (by simp [go_sem]) (pensIn1 Hm.out (by simp [go_sem]) (by simp [go_sem]) (by simp [go_sem]) (by simp [go_sem]) (by simp [go_sem]) (by simp [go_sem]))) ?_
  rintro e w' ⟨rfl, h1, d1, rfl⟩
  go_wp2
  go_returns
  exact ⟨rfl, (by repeat' (first | (with_reducible exact Grows.refl _) | (with_reducible refine Grows.alloc ?_ _) | (with_reducible refine Grows.drew ?_) | (with_reducible refine Grows.ext ?_ _ _)))⟩
theorem kapply (w : World) : Calls Try.prog 19 #[.agg #[.int .i64 (-1), .int .i64 0, .int .i64 0, .int .i64 0, .int .i64 0, .int .i64 0, .int .i64 0, .int .i64 0], .agg #[.int .i64 39, .int .i64 4, .int .i64 1, .int .i64 0, .int .i64 0, .string ⟨#[]⟩]] w (Ret (.tuple #[.agg #[.int .i64 0, .int .i64 0, .int .i64 0, .int .i64 0, .int .i64 0, .int .i64 0, .int .i64 0, .int .i64 0], .int .i64 140]) w) :=
  apply_l (-1) 0 0 0 0 0 0 0 39 4 1 0 0 ⟨#[]⟩ 0 0 0 0 0 0 0 0 140 (by unfold In64; omega) (by unfold In64; omega) (by kernel_rfl) w
theorem krun (B : Nat) (w : World) (hb : B < w.heap.size) (c0 : w.cell? ⟨B, 0, none⟩ = some (.int .i64 39)) (c1 : w.cell? ⟨B, 1, none⟩ = some (.int .i64 4)) (c2 : w.cell? ⟨B, 2, none⟩ = some (.int .i64 0)) (c3 : w.cell? ⟨B, 3, none⟩ = some (.int .i64 0)) (c4 : w.cell? ⟨B, 4, none⟩ = some (.int .i64 0)) (c5 : w.cell? ⟨B, 5, none⟩ = some (.string ⟨#[]⟩)) (c6 : w.cell? ⟨B, 6, none⟩ = some (.int .i64 39)) (c7 : w.cell? ⟨B, 7, none⟩ = some (.int .i64 4)) (c8 : w.cell? ⟨B, 8, none⟩ = some (.int .i64 1)) (c9 : w.cell? ⟨B, 9, none⟩ = some (.int .i64 0)) (c10 : w.cell? ⟨B, 10, none⟩ = some (.int .i64 0)) (c11 : w.cell? ⟨B, 11, none⟩ = some (.string ⟨#[]⟩)) : Calls Try.prog 17 #[.agg #[.int .i64 1, .int .i64 0, .int .i64 0, .int .i64 0, .int .i64 0, .int .i64 0, .int .i64 0, .int .i64 0], .slice (some ⟨B, 0, none⟩) 2 2] w (Ret (.tuple #[.agg #[.int .i64 0, .int .i64 0, .int .i64 0, .int .i64 0, .int .i64 0, .int .i64 0, .int .i64 0, .int .i64 0], .int .i64 141]) w) := by
  have hp : PensIn w B 0 [⟨39, 4, 0, 0, 0, ⟨#[]⟩⟩, ⟨39, 4, 1, 0, 0, ⟨#[]⟩⟩] := by
    intro i q h
    match i, h with
    | 0, h => cases h; exact ⟨by unfold In64; simp, c0, c1, c2, c3, c4, c5⟩
    | 1, h => cases h; exact ⟨by unfold In64; simp, c6, c7, c8, c9, c10, c11⟩
    | i + 2, h => cases h
  have h := run_any 1 0 0 0 0 0 0 0 (by unfold In64; omega) [⟨39, 4, 0, 0, 0, ⟨#[]⟩⟩, ⟨39, 4, 1, 0, 0, ⟨#[]⟩⟩] B 0 2 w (by simp) hb hp
  rw [show runV ⟨1, 0, 0, 0, 0, 0, 0, 0⟩ [⟨39, 4, 0, 0, 0, ⟨#[]⟩⟩, ⟨39, 4, 1, 0, 0, ⟨#[]⟩⟩] = .tuple #[.agg #[.int .i64 0, .int .i64 0, .int .i64 0, .int .i64 0, .int .i64 0, .int .i64 0, .int .i64 0, .int .i64 0], .int .i64 141] by kernel_rfl] at h
  exact h
theorem kmakes (w : World) : Calls Try.prog 22 #[.agg #[.int .i64 7, .int .i64 0, .int .i64 0, .int .i64 0, .int .i64 0, .int .i64 0, .int .i64 0, .int .i64 0], .agg #[.int .i64 7, .int .i64 0, .int .i64 0, .int .i64 0, .int .i64 0, .int .i64 0, .int .i64 0, .int .i64 0], .slice none 0 0] w (Ret (.bool true) w) :=
  makes_yes 7 0 0 0 0 0 0 0 7 0 0 0 0 0 0 0 none 0 0 w fun W _ => by
    have h := run_nil 7 0 0 0 0 0 0 0 (by unfold In64; omega) none 0 W
    rw [show runV ⟨7, 0, 0, 0, 0, 0, 0, 0⟩ [] = .tuple #[.agg #[.int .i64 7, .int .i64 0, .int .i64 0, .int .i64 0, .int .i64 0, .int .i64 0, .int .i64 0, .int .i64 0], .int .i64 0] by kernel_rfl] at h
    exact h

theorem Grows.size {w w' : World} (g : Grows w w') : w.heap.size ≤ w'.heap.size := by
  obtain ⟨h, d, rfl⟩ := g
  rw [ext_size]
  omega
theorem ActAt.grows {w w' : World} {B : Nat} {kd n m ck cn : Int} {s : ByteArray} (h : ActAt w B kd n m ck cn s) (g : Grows w w') : ActAt w' B kd n m ck cn s := by
  obtain ⟨h0, h1, h2, h3, h4, h5, h6⟩ := h
  exact ⟨(Grows.cell g B 0 h0).2, (Grows.cell g _ _ h0).1.trans h1, (Grows.cell g _ _ h0).1.trans h2, (Grows.cell g _ _ h0).1.trans h3, (Grows.cell g _ _ h0).1.trans h4, (Grows.cell g _ _ h0).1.trans h5, (Grows.cell g _ _ h0).1.trans h6⟩
def OwnAt (w : World) (B : Nat) (kd n m ck cn : Int) (s : ByteArray) : Prop := ActAt w B kd n m ck cn s ∧ (w.frozen? ⟨B, 0, none⟩ = false ∧ w.frozen? ⟨B, 1, none⟩ = false ∧ w.frozen? ⟨B, 2, none⟩ = false)
set_option maxRecDepth 100000 in
set_option maxHeartbeats 20000000 in
theorem lawKnown_true (w : World) : Calls Try.prog 7 #[] w (Ret (.bool true) w) := by
  go_enter Try.func7, Try.ntmps7
  go_upto_region 3 with (first | (go_at_call 12; (with_reducible refine (kchk_0 _).mono ?_); rintro e w' ⟨rfl, h30, d30, rfl⟩) | (go_at_call 12; (with_reducible refine (kchk_1 _).mono ?_); rintro e w' ⟨rfl, h31, d31, rfl⟩) | (go_at_call 12; (with_reducible refine (kchk_2 _).mono ?_); rintro e w' ⟨rfl, h32, d32, rfl⟩) | (go_at_call 12; (with_reducible refine (kchk_3 _).mono ?_); rintro e w' ⟨rfl, h33, d33, rfl⟩) | (go_at_call 12; (with_reducible refine (kchk_4 _).mono ?_); rintro e w' ⟨rfl, h34, d34, rfl⟩) | (go_at_call 12; (with_reducible refine (kchk_5 _).mono ?_); rintro e w' ⟨rfl, h35, d35, rfl⟩) | (go_at_call 12; (with_reducible refine (kchk_6 _).mono ?_); rintro e w' ⟨rfl, h36, d36, rfl⟩) | (go_at_call 12; (with_reducible refine (kchk_7 _).mono ?_); rintro e w' ⟨rfl, h37, d37, rfl⟩) | (go_at_call 14; (with_reducible refine (kpen_0 _).mono ?_); rintro e w' ⟨rfl, h40, d40, rfl⟩) | (go_at_call 14; (with_reducible refine (kpen_1 _).mono ?_); rintro e w' ⟨rfl, h41, d41, rfl⟩) | (go_at_call 14; (with_reducible refine (kpen_2 _).mono ?_); rintro e w' ⟨rfl, h42, d42, rfl⟩) | (go_at_call 14; (with_reducible refine (kpen_3 _).mono ?_); rintro e w' ⟨rfl, h43, d43, rfl⟩) | (go_at_call 14; (with_reducible refine (kpen_4 _).mono ?_); rintro e w' ⟨rfl, h44, d44, rfl⟩) | (go_at_call 14; (with_reducible refine (kpen_5 _).mono ?_); rintro e w' ⟨rfl, h45, d45, rfl⟩) | (go_at_call 14; (with_reducible refine (kpen_6 _).mono ?_); rintro e w' ⟨rfl, h46, d46, rfl⟩) | (go_at_call 14; (with_reducible refine (kpen_7 _).mono ?_); rintro e w' ⟨rfl, h47, d47, rfl⟩) | (go_at_call 14; (with_reducible refine (kpen_8 _).mono ?_); rintro e w' ⟨rfl, h48, d48, rfl⟩) | (go_at_call 14; (with_reducible refine (kpen_9 _).mono ?_); rintro e w' ⟨rfl, h49, d49, rfl⟩) | (go_at_call 14; (with_reducible refine (kpen_10 _).mono ?_); rintro e w' ⟨rfl, h50, d50, rfl⟩) | (go_at_call 14; (with_reducible refine (kpen_11 _).mono ?_); rintro e w' ⟨rfl, h51, d51, rfl⟩) | (go_at_call 14; (with_reducible refine (kpen_12 _).mono ?_); rintro e w' ⟨rfl, h52, d52, rfl⟩) | (go_at_call 14; (with_reducible refine (kpen_13 _).mono ?_); rintro e w' ⟨rfl, h53, d53, rfl⟩) | (go_at_call 21; (with_reducible refine (pen_any _ _ _).mono ?_); rintro e w' ⟨rfl, h60, d60, rfl⟩) | (go_at_call 23; (with_reducible refine (fore_any _ _ _).mono ?_); rintro e w' ⟨rfl, h61, d61, rfl⟩) | (go_at_call 19; (with_reducible refine (kapply _).mono ?_); rintro e w' ⟨rfl, h62, d62, rfl⟩) | (go_at_call 17; (with_reducible refine (krun _ _ (by simp [go_sem]) (by simp [go_sem]) (by simp [go_sem]) (by simp [go_sem]) (by simp [go_sem]) (by simp [go_sem]) (by simp [go_sem]) (by simp [go_sem]) (by simp [go_sem]) (by simp [go_sem]) (by simp [go_sem]) (by simp [go_sem]) (by simp [go_sem])).mono ?_); rintro e w' ⟨rfl, h63, d63, rfl⟩) | (go_at_call 16; (with_reducible refine (works_true _).mono ?_); rintro e w' ⟨rfl, h64, d64, rfl⟩) | (go_at_call 22; (with_reducible refine (kmakes _).mono ?_); rintro e w' ⟨rfl, h65, d65, rfl⟩))
  go_cut [3] (fun s3 wx => ∃ B3 : Nat, s3 = .pointer (some ⟨B3, 0, none⟩) ∧ ActAt wx B3 39 4 0 0 0 ⟨#[]⟩ ∧ Grows w wx)
  case first =>
    go_wp2_with (first | (go_at_call 12; (with_reducible refine (kchk_0 _).mono ?_); rintro e w' ⟨rfl, h30, d30, rfl⟩) | (go_at_call 12; (with_reducible refine (kchk_1 _).mono ?_); rintro e w' ⟨rfl, h31, d31, rfl⟩) | (go_at_call 12; (with_reducible refine (kchk_2 _).mono ?_); rintro e w' ⟨rfl, h32, d32, rfl⟩) | (go_at_call 12; (with_reducible refine (kchk_3 _).mono ?_); rintro e w' ⟨rfl, h33, d33, rfl⟩) | (go_at_call 12; (with_reducible refine (kchk_4 _).mono ?_); rintro e w' ⟨rfl, h34, d34, rfl⟩) | (go_at_call 12; (with_reducible refine (kchk_5 _).mono ?_); rintro e w' ⟨rfl, h35, d35, rfl⟩) | (go_at_call 12; (with_reducible refine (kchk_6 _).mono ?_); rintro e w' ⟨rfl, h36, d36, rfl⟩) | (go_at_call 12; (with_reducible refine (kchk_7 _).mono ?_); rintro e w' ⟨rfl, h37, d37, rfl⟩) | (go_at_call 14; (with_reducible refine (kpen_0 _).mono ?_); rintro e w' ⟨rfl, h40, d40, rfl⟩) | (go_at_call 14; (with_reducible refine (kpen_1 _).mono ?_); rintro e w' ⟨rfl, h41, d41, rfl⟩) | (go_at_call 14; (with_reducible refine (kpen_2 _).mono ?_); rintro e w' ⟨rfl, h42, d42, rfl⟩) | (go_at_call 14; (with_reducible refine (kpen_3 _).mono ?_); rintro e w' ⟨rfl, h43, d43, rfl⟩) | (go_at_call 14; (with_reducible refine (kpen_4 _).mono ?_); rintro e w' ⟨rfl, h44, d44, rfl⟩) | (go_at_call 14; (with_reducible refine (kpen_5 _).mono ?_); rintro e w' ⟨rfl, h45, d45, rfl⟩) | (go_at_call 14; (with_reducible refine (kpen_6 _).mono ?_); rintro e w' ⟨rfl, h46, d46, rfl⟩) | (go_at_call 14; (with_reducible refine (kpen_7 _).mono ?_); rintro e w' ⟨rfl, h47, d47, rfl⟩) | (go_at_call 14; (with_reducible refine (kpen_8 _).mono ?_); rintro e w' ⟨rfl, h48, d48, rfl⟩) | (go_at_call 14; (with_reducible refine (kpen_9 _).mono ?_); rintro e w' ⟨rfl, h49, d49, rfl⟩) | (go_at_call 14; (with_reducible refine (kpen_10 _).mono ?_); rintro e w' ⟨rfl, h50, d50, rfl⟩) | (go_at_call 14; (with_reducible refine (kpen_11 _).mono ?_); rintro e w' ⟨rfl, h51, d51, rfl⟩) | (go_at_call 14; (with_reducible refine (kpen_12 _).mono ?_); rintro e w' ⟨rfl, h52, d52, rfl⟩) | (go_at_call 14; (with_reducible refine (kpen_13 _).mono ?_); rintro e w' ⟨rfl, h53, d53, rfl⟩) | (go_at_call 21; (with_reducible refine (pen_any _ _ _).mono ?_); rintro e w' ⟨rfl, h60, d60, rfl⟩) | (go_at_call 23; (with_reducible refine (fore_any _ _ _).mono ?_); rintro e w' ⟨rfl, h61, d61, rfl⟩) | (go_at_call 19; (with_reducible refine (kapply _).mono ?_); rintro e w' ⟨rfl, h62, d62, rfl⟩) | (go_at_call 17; (with_reducible refine (krun _ _ (by simp [go_sem]) (by simp [go_sem]) (by simp [go_sem]) (by simp [go_sem]) (by simp [go_sem]) (by simp [go_sem]) (by simp [go_sem]) (by simp [go_sem]) (by simp [go_sem]) (by simp [go_sem]) (by simp [go_sem]) (by simp [go_sem]) (by simp [go_sem])).mono ?_); rintro e w' ⟨rfl, h63, d63, rfl⟩) | (go_at_call 16; (with_reducible refine (works_true _).mono ?_); rintro e w' ⟨rfl, h64, d64, rfl⟩) | (go_at_call 22; (with_reducible refine (kmakes _).mono ?_); rintro e w' ⟨rfl, h65, d65, rfl⟩))
    go_meet
    exact ⟨_, rfl, ⟨by simp [go_sem], by simp [go_sem], by simp [go_sem], by simp [go_sem], by simp [go_sem], by simp [go_sem], by simp [go_sem]⟩, (by repeat' (first | (with_reducible exact Grows.refl _) | (with_reducible refine Grows.alloc ?_ _) | (with_reducible refine Grows.drew ?_) | (with_reducible refine Grows.ext ?_ _ _)))⟩
  case rest =>
    obtain ⟨B3, rfl, hA, hG⟩ := hcut
    have hsz := hG.size
    have hA0 := hA
    obtain ⟨q0, q1, q2, q3, q4, q5, q6⟩ := hA
    go_upto_region 4 with fail
    go_cut [4, 5] (fun s4 s5 wx => ∃ B4 B5 : Nat, s4 = .pointer (some ⟨B4, 0, none⟩) ∧ s5 = .pointer (some ⟨B5, 0, none⟩) ∧ (w.heap.size ≤ B4 ∧ w.heap.size ≤ B5 ∧ ¬ B4 = B5 ∧ ¬ B5 = B4 ∧ ¬ B3 = B4 ∧ ¬ B3 = B5 ∧ ¬ B4 = B3 ∧ ¬ B5 = B3) ∧ OwnAt wx B4 39 4 0 0 0 ⟨#[]⟩ ∧ OwnAt wx B5 39 4 0 0 0 ⟨#[]⟩ ∧ ActAt wx B3 39 4 0 0 0 ⟨#[]⟩ ∧ Grows w wx)
    case first =>
      go_region
      all_goals (go_wp2_with fail; go_meet; exact ⟨_, _, rfl, rfl, by omega, ⟨⟨by simp [go_sem], by simp [go_sem], by simp [go_sem], by simp [go_sem], by simp [go_sem], by simp [go_sem], by simp [go_sem]⟩, ⟨by simp [go_sem], by simp [go_sem], by simp [go_sem]⟩⟩, ⟨⟨by simp [go_sem], by simp [go_sem], by simp [go_sem], by simp [go_sem], by simp [go_sem], by simp [go_sem], by simp [go_sem]⟩, ⟨by simp [go_sem], by simp [go_sem], by simp [go_sem]⟩⟩, ActAt.grows hA0 (by repeat' (first | (with_reducible exact Grows.refl _) | (with_reducible refine Grows.alloc ?_ _) | (with_reducible refine Grows.drew ?_) | (with_reducible refine Grows.ext ?_ _ _))), (by repeat' (first | (with_reducible exact hG) | (with_reducible exact Grows.refl _) | (with_reducible refine Grows.alloc ?_ _) | (with_reducible refine Grows.drew ?_) | (with_reducible refine Grows.ext ?_ _ _)))⟩)
    case rest =>
      clear hA0 q0 q1 q2 q3 q4 q5 q6 hG hsz
      obtain ⟨B4, B5, rfl, rfl, ⟨z0, z1, z2, z3, z4, z5, z6, z7⟩, ⟨⟨a0, a1, a2, a3, a4, a5, a6⟩, ⟨f0, f1, f2⟩⟩, ⟨⟨b0, b1, b2, b3, b4, b5, b6⟩, ⟨g0, g1, g2⟩⟩, ⟨q0, q1, q2, q3, q4, q5, q6⟩, hG⟩ := hcut
      go_wp2_with (first | (go_at_call 12; (with_reducible refine (kchk_0 _).mono ?_); rintro e w' ⟨rfl, h30, d30, rfl⟩) | (go_at_call 12; (with_reducible refine (kchk_1 _).mono ?_); rintro e w' ⟨rfl, h31, d31, rfl⟩) | (go_at_call 12; (with_reducible refine (kchk_2 _).mono ?_); rintro e w' ⟨rfl, h32, d32, rfl⟩) | (go_at_call 12; (with_reducible refine (kchk_3 _).mono ?_); rintro e w' ⟨rfl, h33, d33, rfl⟩) | (go_at_call 12; (with_reducible refine (kchk_4 _).mono ?_); rintro e w' ⟨rfl, h34, d34, rfl⟩) | (go_at_call 12; (with_reducible refine (kchk_5 _).mono ?_); rintro e w' ⟨rfl, h35, d35, rfl⟩) | (go_at_call 12; (with_reducible refine (kchk_6 _).mono ?_); rintro e w' ⟨rfl, h36, d36, rfl⟩) | (go_at_call 12; (with_reducible refine (kchk_7 _).mono ?_); rintro e w' ⟨rfl, h37, d37, rfl⟩) | (go_at_call 14; (with_reducible refine (kpen_0 _).mono ?_); rintro e w' ⟨rfl, h40, d40, rfl⟩) | (go_at_call 14; (with_reducible refine (kpen_1 _).mono ?_); rintro e w' ⟨rfl, h41, d41, rfl⟩) | (go_at_call 14; (with_reducible refine (kpen_2 _).mono ?_); rintro e w' ⟨rfl, h42, d42, rfl⟩) | (go_at_call 14; (with_reducible refine (kpen_3 _).mono ?_); rintro e w' ⟨rfl, h43, d43, rfl⟩) | (go_at_call 14; (with_reducible refine (kpen_4 _).mono ?_); rintro e w' ⟨rfl, h44, d44, rfl⟩) | (go_at_call 14; (with_reducible refine (kpen_5 _).mono ?_); rintro e w' ⟨rfl, h45, d45, rfl⟩) | (go_at_call 14; (with_reducible refine (kpen_6 _).mono ?_); rintro e w' ⟨rfl, h46, d46, rfl⟩) | (go_at_call 14; (with_reducible refine (kpen_7 _).mono ?_); rintro e w' ⟨rfl, h47, d47, rfl⟩) | (go_at_call 14; (with_reducible refine (kpen_8 _).mono ?_); rintro e w' ⟨rfl, h48, d48, rfl⟩) | (go_at_call 14; (with_reducible refine (kpen_9 _).mono ?_); rintro e w' ⟨rfl, h49, d49, rfl⟩) | (go_at_call 14; (with_reducible refine (kpen_10 _).mono ?_); rintro e w' ⟨rfl, h50, d50, rfl⟩) | (go_at_call 14; (with_reducible refine (kpen_11 _).mono ?_); rintro e w' ⟨rfl, h51, d51, rfl⟩) | (go_at_call 14; (with_reducible refine (kpen_12 _).mono ?_); rintro e w' ⟨rfl, h52, d52, rfl⟩) | (go_at_call 14; (with_reducible refine (kpen_13 _).mono ?_); rintro e w' ⟨rfl, h53, d53, rfl⟩) | (go_at_call 21; (with_reducible refine (pen_any _ _ _).mono ?_); rintro e w' ⟨rfl, h60, d60, rfl⟩) | (go_at_call 23; (with_reducible refine (fore_any _ _ _).mono ?_); rintro e w' ⟨rfl, h61, d61, rfl⟩) | (go_at_call 19; (with_reducible refine (kapply _).mono ?_); rintro e w' ⟨rfl, h62, d62, rfl⟩) | (go_at_call 17; (with_reducible refine (krun _ _ (by simp [go_sem]) (by simp [go_sem]) (by simp [go_sem]) (by simp [go_sem]) (by simp [go_sem]) (by simp [go_sem]) (by simp [go_sem]) (by simp [go_sem]) (by simp [go_sem]) (by simp [go_sem]) (by simp [go_sem]) (by simp [go_sem]) (by simp [go_sem])).mono ?_); rintro e w' ⟨rfl, h63, d63, rfl⟩) | (go_at_call 16; (with_reducible refine (works_true _).mono ?_); rintro e w' ⟨rfl, h64, d64, rfl⟩) | (go_at_call 22; (with_reducible refine (kmakes _).mono ?_); rintro e w' ⟨rfl, h65, d65, rfl⟩))
      go_returns
      exact ⟨rfl, (by repeat' (first | (with_reducible exact hG) | (with_reducible refine Grows.setCell ?_ z0 _) | (with_reducible refine Grows.setCell ?_ z1 _) | (with_reducible exact Grows.refl _) | (with_reducible refine Grows.alloc ?_ _) | (with_reducible refine Grows.drew ?_) | (with_reducible refine Grows.ext ?_ _ _)))⟩
end Go.Proofs.Ytafokiobbceibaa
