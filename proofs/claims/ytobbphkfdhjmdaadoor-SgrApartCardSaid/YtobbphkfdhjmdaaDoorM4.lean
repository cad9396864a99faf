/-
  Walks: the colors. Walks: Check of a style. Walks: the pens. Walks: which M may be. Walk: CheckPen. Walks: Same of the reference.
-/
import Derived.Test.YtobbphkfdhjmdaaDoorRows
import Derived.Test.YtobbphkfdhjmdaaDoorM1
import Derived.WalkKit
import Derived.WalkSpells
import Derived.WalkLawsBesides
import Derived.Handy
import Derived.Laws.EntriesVeiled
import Derived.Lib.Hide
import Derived.Deep.Light
import Derived.Deep.LoopGhost
import Derived.BigGuardPart
import Derived.BigQuiet
import Derived.Deep.QuietTactic
import Derived.Deep.RegionHeld3
import Derived.Carry
import Derived.Laws.Rows
import Derived.Great.BuildSlice
import Derived.Deep.Heap
import Derived.IntWalk
import Derived.Outline
import Derived.Deep.DeepCutAuto
namespace Go.Proofs.YtobbphkfdhjmdaaDoor
open Go.RowKit


theorem limits_any (w : World) : Calls Tryd.prog 84 #[] w (Ret (.agg #[.int .i64 0, .int .i64 255, .int .i64 16777215]) w) := by
  go_enter Tryd.func84, Tryd.ntmps84
  go_wp2
  go_returns
  exact ⟨rfl, (by repeat' (first | (with_reducible exact Grows.refl _) | (with_reducible refine Grows.alloc ?_ _) | (with_reducible refine Grows.drew ?_) | (with_reducible refine Grows.ext ?_ _ _)))⟩

set_option maxHeartbeats 2000000 in
theorem rcolor_any (k n : Int) (w : World) : Calls Tryd.prog 74 #[.agg #[.int .i64 k, .int .i64 n]] w (Ret (.int .i64 (clErr (clOk k n))) w) := by
  have hc : (k = 0 ∧ n = 0) ∨ (k = 0 ∧ n ≠ 0) ∨ (k = 1 ∧ n < 0) ∨ (k = 1 ∧ 0 ≤ n ∧ n ≤ 255) ∨ (k = 1 ∧ 255 < n) ∨ (k = 2 ∧ n < 0) ∨ (k = 2 ∧ 0 ≤ n ∧ n ≤ 16777215) ∨ (k = 2 ∧ 16777215 < n) ∨ (k ≠ 0 ∧ k ≠ 1 ∧ k ≠ 2) := by omega
  rcases hc with ⟨rfl, hn⟩ | ⟨rfl, hn⟩ | ⟨rfl, hn⟩ | ⟨rfl, hn, hn2⟩ | ⟨rfl, hn⟩ | ⟨rfl, hn⟩ | ⟨rfl, hn, hn2⟩ | ⟨rfl, hn⟩ | ⟨hn, hn2, hn3⟩
  all_goals first
    | rw [clOk_t (by omega)]
    | rw [clOk_f (by omega)]
  · have e1 : (n == 0) = true := by simp [hn]
    clear hn
    go_enter Tryd.func74, Tryd.ntmps74
    go_wp2
    go_returns
    exact ⟨rfl, (by repeat' (first | (with_reducible exact Grows.refl _) | (with_reducible refine Grows.alloc ?_ _) | (with_reducible refine Grows.drew ?_) | (with_reducible refine Grows.ext ?_ _ _)))⟩
  · have e1 : (n == 0) = false := by simp [hn]
    clear hn
    go_enter Tryd.func74, Tryd.ntmps74
    go_wp2
    go_returns
    exact ⟨rfl, (by repeat' (first | (with_reducible exact Grows.refl _) | (with_reducible refine Grows.alloc ?_ _) | (with_reducible refine Grows.drew ?_) | (with_reducible refine Grows.ext ?_ _ _)))⟩
  · have e1 : decide (0 ≤ n) = false := by simp; omega
    clear hn
    go_enter Tryd.func74, Tryd.ntmps74
    go_wp2
    go_returns
    exact ⟨rfl, (by repeat' (first | (with_reducible exact Grows.refl _) | (with_reducible refine Grows.alloc ?_ _) | (with_reducible refine Grows.drew ?_) | (with_reducible refine Grows.ext ?_ _ _)))⟩
  · have e1 : decide (0 ≤ n) = true := by simp; omega
    have e2 : decide (n ≤ 255) = true := by simp; omega
    clear hn hn2
    go_enter Tryd.func74, Tryd.ntmps74
    go_wp2
    go_returns
    exact ⟨rfl, (by repeat' (first | (with_reducible exact Grows.refl _) | (with_reducible refine Grows.alloc ?_ _) | (with_reducible refine Grows.drew ?_) | (with_reducible refine Grows.ext ?_ _ _)))⟩
  · have e1 : decide (0 ≤ n) = true := by simp; omega
    have e2 : decide (n ≤ 255) = false := by simp; omega
    clear hn
    go_enter Tryd.func74, Tryd.ntmps74
    go_wp2
    go_returns
    exact ⟨rfl, (by repeat' (first | (with_reducible exact Grows.refl _) | (with_reducible refine Grows.alloc ?_ _) | (with_reducible refine Grows.drew ?_) | (with_reducible refine Grows.ext ?_ _ _)))⟩
  · have e1 : decide (0 ≤ n) = false := by simp; omega
    clear hn
    go_enter Tryd.func74, Tryd.ntmps74
    go_wp2
    go_returns
    exact ⟨rfl, (by repeat' (first | (with_reducible exact Grows.refl _) | (with_reducible refine Grows.alloc ?_ _) | (with_reducible refine Grows.drew ?_) | (with_reducible refine Grows.ext ?_ _ _)))⟩
  · have e1 : decide (0 ≤ n) = true := by simp; omega
    have e2 : decide (n ≤ 16777215) = true := by simp; omega
    clear hn hn2
    go_enter Tryd.func74, Tryd.ntmps74
    go_wp2
    go_returns
    exact ⟨rfl, (by repeat' (first | (with_reducible exact Grows.refl _) | (with_reducible refine Grows.alloc ?_ _) | (with_reducible refine Grows.drew ?_) | (with_reducible refine Grows.ext ?_ _ _)))⟩
  · have e1 : decide (0 ≤ n) = true := by simp; omega
    have e2 : decide (n ≤ 16777215) = false := by simp; omega
    clear hn
    go_enter Tryd.func74, Tryd.ntmps74
    go_wp2
    go_returns
    exact ⟨rfl, (by repeat' (first | (with_reducible exact Grows.refl _) | (with_reducible refine Grows.alloc ?_ _) | (with_reducible refine Grows.drew ?_) | (with_reducible refine Grows.ext ?_ _ _)))⟩
  · have e1 : (k == 0) = false := by simp [hn]
    have e2 : (k == 1) = false := by simp [hn2]
    have e3 : (k == 2) = false := by simp [hn3]
    clear hn hn2 hn3
    go_enter Tryd.func74, Tryd.ntmps74
    go_wp2
    go_returns
    exact ⟨rfl, (by repeat' (first | (with_reducible exact Grows.refl _) | (with_reducible refine Grows.alloc ?_ _) | (with_reducible refine Grows.drew ?_) | (with_reducible refine Grows.ext ?_ _ _)))⟩

set_option maxHeartbeats 4000000 in
theorem color_any (k n : Int) (w : World) : Calls Tryd.prog 49 #[.agg #[.int .i64 k, .int .i64 n]] w (Ret (.int .i64 (clErr (clOk k n))) w) := by
  have hc : k < 0 ∨ (0 ≤ k ∧ 3 ≤ k) ∨ (k = 0 ∧ n < 0) ∨ (k = 0 ∧ 0 ≤ n ∧ 0 < n) ∨ (k = 0 ∧ 0 ≤ n ∧ n ≤ 0) ∨ (k = 1 ∧ n < 0) ∨ (k = 1 ∧ 0 ≤ n ∧ 255 < n) ∨ (k = 1 ∧ 0 ≤ n ∧ n ≤ 255) ∨ (k = 2 ∧ n < 0) ∨ (k = 2 ∧ 0 ≤ n ∧ 16777215 < n) ∨ (k = 2 ∧ 0 ≤ n ∧ n ≤ 16777215) := by omega
  rcases hc with hn | ⟨hn, hn2⟩ | ⟨rfl, hn⟩ | ⟨rfl, hn, hn2⟩ | ⟨rfl, hn, hn2⟩ | ⟨rfl, hn⟩ | ⟨rfl, hn, hn2⟩ | ⟨rfl, hn, hn2⟩ | ⟨rfl, hn⟩ | ⟨rfl, hn, hn2⟩ | ⟨rfl, hn, hn2⟩
  all_goals first
    | rw [clOk_t (by omega)]
    | rw [clOk_f (by omega)]
  · have e1 : decide (k < 0) = true := by simp; omega
    clear hn
    go_enter Tryd.func49, Tryd.ntmps49
    go_wp2_with (first | (go_at_call 84; (with_reducible refine (limits_any _).mono ?_); rintro e w' ⟨rfl, h11, d11, rfl⟩))
    refine wp_region_grow (by kernel_rfl) (by kernel_rfl) ?_
    repeat (first | go_big_quiet_step ((fail)) | quiet_step ((fail)))
    refine wpQuiet_nil ?_
    rintro _ ⟨g12, rfl⟩
    go_wp2
    go_returns
    exact ⟨rfl, (by repeat' (first | (with_reducible exact Grows.refl _) | (with_reducible refine Grows.alloc ?_ _) | (with_reducible refine Grows.drew ?_) | (with_reducible refine Grows.ext ?_ _ _)))⟩
  · have e1 : decide (k < 0) = false := by simp; omega
    have e2 : decide (3 ≤ k) = true := by simp; omega
    clear hn hn2
    go_enter Tryd.func49, Tryd.ntmps49
    go_wp2_with (first | (go_at_call 84; (with_reducible refine (limits_any _).mono ?_); rintro e w' ⟨rfl, h11, d11, rfl⟩))
    refine wp_region_grow (by kernel_rfl) (by kernel_rfl) ?_
    repeat (first | go_big_quiet_step ((fail)) | quiet_step ((fail)))
    refine wpQuiet_nil ?_
    rintro _ ⟨g13, rfl⟩
    go_wp2
    go_returns
    exact ⟨rfl, (by repeat' (first | (with_reducible exact Grows.refl _) | (with_reducible refine Grows.alloc ?_ _) | (with_reducible refine Grows.drew ?_) | (with_reducible refine Grows.ext ?_ _ _)))⟩
  · have e1 : decide (n < 0) = true := by simp; omega
    clear hn
    go_enter Tryd.func49, Tryd.ntmps49
    go_wp2_with (first | (go_at_call 84; (with_reducible refine (limits_any _).mono ?_); rintro e w' ⟨rfl, h11, d11, rfl⟩))
    refine wp_region_grow (by kernel_rfl) (by kernel_rfl) ?_
    repeat (first | go_big_quiet_step ((fail)) | quiet_step ((fail)))
    refine wpQuiet_nil ?_
    rintro _ ⟨g14, rfl⟩
    go_wp2
    go_returns
    exact ⟨rfl, (by repeat' (first | (with_reducible exact Grows.refl _) | (with_reducible refine Grows.alloc ?_ _) | (with_reducible refine Grows.drew ?_) | (with_reducible refine Grows.ext ?_ _ _)))⟩
  · have e1 : decide (n < 0) = false := by simp; omega
    have e2 : decide (0 < n) = true := by simp; omega
    clear hn hn2
    go_enter Tryd.func49, Tryd.ntmps49
    go_wp2_with (first | (go_at_call 84; (with_reducible refine (limits_any _).mono ?_); rintro e w' ⟨rfl, h11, d11, rfl⟩))
    refine wp_region_grow (by kernel_rfl) (by kernel_rfl) ?_
    repeat (first | go_big_quiet_step ((fail)) | quiet_step ((fail)))
    refine wpQuiet_nil ?_
    rintro _ ⟨g15, rfl⟩
    go_wp2
    go_returns
    exact ⟨rfl, (by repeat' (first | (with_reducible exact Grows.refl _) | (with_reducible refine Grows.alloc ?_ _) | (with_reducible refine Grows.drew ?_) | (with_reducible refine Grows.ext ?_ _ _)))⟩
  · have e1 : decide (n < 0) = false := by simp; omega
    have e2 : decide (0 < n) = false := by simp; omega
    clear hn hn2
    go_enter Tryd.func49, Tryd.ntmps49
    go_wp2_with (first | (go_at_call 84; (with_reducible refine (limits_any _).mono ?_); rintro e w' ⟨rfl, h11, d11, rfl⟩))
    refine wp_region_grow (by kernel_rfl) (by kernel_rfl) ?_
    repeat (first | go_big_quiet_step ((fail)) | quiet_step ((fail)))
    refine wpQuiet_nil ?_
    rintro _ ⟨g16, rfl⟩
    go_wp2
    go_returns
    exact ⟨rfl, (by repeat' (first | (with_reducible exact Grows.refl _) | (with_reducible refine Grows.alloc ?_ _) | (with_reducible refine Grows.drew ?_) | (with_reducible refine Grows.ext ?_ _ _)))⟩
  · have e1 : decide (n < 0) = true := by simp; omega
    clear hn
    go_enter Tryd.func49, Tryd.ntmps49
    go_wp2_with (first | (go_at_call 84; (with_reducible refine (limits_any _).mono ?_); rintro e w' ⟨rfl, h11, d11, rfl⟩))
    refine wp_region_grow (by kernel_rfl) (by kernel_rfl) ?_
    repeat (first | go_big_quiet_step ((fail)) | quiet_step ((fail)))
    refine wpQuiet_nil ?_
    rintro _ ⟨g17, rfl⟩
    go_wp2
    go_returns
    exact ⟨rfl, (by repeat' (first | (with_reducible exact Grows.refl _) | (with_reducible refine Grows.alloc ?_ _) | (with_reducible refine Grows.drew ?_) | (with_reducible refine Grows.ext ?_ _ _)))⟩
  · have e1 : decide (n < 0) = false := by simp; omega
    have e2 : decide (255 < n) = true := by simp; omega
    clear hn hn2
    go_enter Tryd.func49, Tryd.ntmps49
    go_wp2_with (first | (go_at_call 84; (with_reducible refine (limits_any _).mono ?_); rintro e w' ⟨rfl, h11, d11, rfl⟩))
    refine wp_region_grow (by kernel_rfl) (by kernel_rfl) ?_
    repeat (first | go_big_quiet_step ((fail)) | quiet_step ((fail)))
    refine wpQuiet_nil ?_
    rintro _ ⟨g18, rfl⟩
    go_wp2
    go_returns
    exact ⟨rfl, (by repeat' (first | (with_reducible exact Grows.refl _) | (with_reducible refine Grows.alloc ?_ _) | (with_reducible refine Grows.drew ?_) | (with_reducible refine Grows.ext ?_ _ _)))⟩
  · have e1 : decide (n < 0) = false := by simp; omega
    have e2 : decide (255 < n) = false := by simp; omega
    clear hn hn2
    go_enter Tryd.func49, Tryd.ntmps49
    go_wp2_with (first | (go_at_call 84; (with_reducible refine (limits_any _).mono ?_); rintro e w' ⟨rfl, h11, d11, rfl⟩))
    refine wp_region_grow (by kernel_rfl) (by kernel_rfl) ?_
    repeat (first | go_big_quiet_step ((fail)) | quiet_step ((fail)))
    refine wpQuiet_nil ?_
    rintro _ ⟨g19, rfl⟩
    go_wp2
    go_returns
    exact ⟨rfl, (by repeat' (first | (with_reducible exact Grows.refl _) | (with_reducible refine Grows.alloc ?_ _) | (with_reducible refine Grows.drew ?_) | (with_reducible refine Grows.ext ?_ _ _)))⟩
  · have e1 : decide (n < 0) = true := by simp; omega
    clear hn
    go_enter Tryd.func49, Tryd.ntmps49
    go_wp2_with (first | (go_at_call 84; (with_reducible refine (limits_any _).mono ?_); rintro e w' ⟨rfl, h11, d11, rfl⟩))
    refine wp_region_grow (by kernel_rfl) (by kernel_rfl) ?_
    repeat (first | go_big_quiet_step ((fail)) | quiet_step ((fail)))
    refine wpQuiet_nil ?_
    rintro _ ⟨g20, rfl⟩
    go_wp2
    go_returns
    exact ⟨rfl, (by repeat' (first | (with_reducible exact Grows.refl _) | (with_reducible refine Grows.alloc ?_ _) | (with_reducible refine Grows.drew ?_) | (with_reducible refine Grows.ext ?_ _ _)))⟩
  · have e1 : decide (n < 0) = false := by simp; omega
    have e2 : decide (16777215 < n) = true := by simp; omega
    clear hn hn2
    go_enter Tryd.func49, Tryd.ntmps49
    go_wp2_with (first | (go_at_call 84; (with_reducible refine (limits_any _).mono ?_); rintro e w' ⟨rfl, h11, d11, rfl⟩))
    refine wp_region_grow (by kernel_rfl) (by kernel_rfl) ?_
    repeat (first | go_big_quiet_step ((fail)) | quiet_step ((fail)))
    refine wpQuiet_nil ?_
    rintro _ ⟨g21, rfl⟩
    go_wp2
    go_returns
    exact ⟨rfl, (by repeat' (first | (with_reducible exact Grows.refl _) | (with_reducible refine Grows.alloc ?_ _) | (with_reducible refine Grows.drew ?_) | (with_reducible refine Grows.ext ?_ _ _)))⟩
  · have e1 : decide (n < 0) = false := by simp; omega
    have e2 : decide (16777215 < n) = false := by simp; omega
    clear hn hn2
    go_enter Tryd.func49, Tryd.ntmps49
    go_wp2_with (first | (go_at_call 84; (with_reducible refine (limits_any _).mono ?_); rintro e w' ⟨rfl, h11, d11, rfl⟩))
    refine wp_region_grow (by kernel_rfl) (by kernel_rfl) ?_
    repeat (first | go_big_quiet_step ((fail)) | quiet_step ((fail)))
    refine wpQuiet_nil ?_
    rintro _ ⟨g22, rfl⟩
    go_wp2
    go_returns
    exact ⟨rfl, (by repeat' (first | (with_reducible exact Grows.refl _) | (with_reducible refine Grows.alloc ?_ _) | (with_reducible refine Grows.drew ?_) | (with_reducible refine Grows.ext ?_ _ _)))⟩
end Go.Proofs.YtobbphkfdhjmdaaDoor

namespace Go.Proofs.YtobbphkfdhjmdaaDoor
open Go.RowKit


/-- A style is valid. -/
def auOk (a u : Int) : Bool := decide (0 ≤ a ∧ a ≤ 255 ∧ 0 ≤ u ∧ u ≤ 5)
def stErr (a u fk fn bk bn lk ln : Int) : Int := if auOk a u then clErr (clOk fk fn && clOk bk bn && clOk lk ln) else 140
theorem auOk_t {a u : Int} (h : 0 ≤ a ∧ a ≤ 255 ∧ 0 ≤ u ∧ u ≤ 5) : auOk a u = true := decide_eq_true h
theorem auOk_f {a u : Int} (h : ¬ (0 ≤ a ∧ a ≤ 255 ∧ 0 ≤ u ∧ u ≤ 5)) : auOk a u = false := decide_eq_false h
theorem idx60_0 (x0 x1 x2 x3 x4 x5 : Value) (w : World) : (Instr.index 118 (.agg #[x0, x1, x2, x3, x4, x5]) (.int .i64 0)).run Tryd.prog w = .ok (.agg #[x0, x1]) w := by kernel_rfl
theorem idx60_1 (x0 x1 x2 x3 x4 x5 : Value) (w : World) : (Instr.index 118 (.agg #[x0, x1, x2, x3, x4, x5]) (.int .i64 1)).run Tryd.prog w = .ok (.agg #[x2, x3]) w := by kernel_rfl
theorem idx60_2 (x0 x1 x2 x3 x4 x5 : Value) (w : World) : (Instr.index 118 (.agg #[x0, x1, x2, x3, x4, x5]) (.int .i64 2)).run Tryd.prog w = .ok (.agg #[x4, x5]) w := by kernel_rfl

set_option maxHeartbeats 8000000 in
theorem check_any (a u fk fn bk bn lk ln : Int) (hi : In64 a) (w : World) : Calls Tryd.prog 33 #[.agg #[.int .i64 a, .int .i64 u, .int .i64 fk, .int .i64 fn, .int .i64 bk, .int .i64 bn, .int .i64 lk, .int .i64 ln]] w (Ret (.int .i64 (stErr a u fk fn bk bn lk ln)) w) := by
  unfold stErr
  have hc : (¬ (0 ≤ a ∧ a ≤ 255)) ∨ ((0 ≤ a ∧ a ≤ 255) ∧ u < 0) ∨ ((0 ≤ a ∧ a ≤ 255) ∧ 0 ≤ u ∧ 5 < u) ∨ ((0 ≤ a ∧ a ≤ 255) ∧ 0 ≤ u ∧ u ≤ 5) := by omega
  have hm := mask_ne hi
  rcases hc with hn | hn | hn | hn
  · rw [auOk_f (by omega)]
    simp only [Bool.false_eq_true, if_false]
    have e1 : (bits .andNot .i64 a 255 != 0) = true := by rw [hm]; simp; omega
    clear hm hn hi
    go_enter Tryd.func33, Tryd.ntmps33
    go_wp2
    go_returns
    exact ⟨rfl, (by repeat' (first | (with_reducible exact Grows.refl _) | (with_reducible refine Grows.alloc ?_ _) | (with_reducible refine Grows.drew ?_) | (with_reducible refine Grows.ext ?_ _ _)))⟩
  · rw [auOk_f (by omega)]
    simp only [Bool.false_eq_true, if_false]
    have e1 : (bits .andNot .i64 a 255 != 0) = false := by rw [hm]; simp; omega
    have e2 : decide (u < 0) = true := by simp; omega
    clear hm hn hi
    go_enter Tryd.func33, Tryd.ntmps33
    go_wp2
    go_returns
    exact ⟨rfl, (by repeat' (first | (with_reducible exact Grows.refl _) | (with_reducible refine Grows.alloc ?_ _) | (with_reducible refine Grows.drew ?_) | (with_reducible refine Grows.ext ?_ _ _)))⟩
  · rw [auOk_f (by omega)]
    simp only [Bool.false_eq_true, if_false]
    have e1 : (bits .andNot .i64 a 255 != 0) = false := by rw [hm]; simp; omega
    have e2 : decide (u < 0) = false := by simp; omega
    have e3 : decide (5 < u) = true := by simp; omega
    clear hm hn hi
    go_enter Tryd.func33, Tryd.ntmps33
    go_wp2
    go_returns
    exact ⟨rfl, (by repeat' (first | (with_reducible exact Grows.refl _) | (with_reducible refine Grows.alloc ?_ _) | (with_reducible refine Grows.drew ?_) | (with_reducible refine Grows.ext ?_ _ _)))⟩
  · rw [auOk_t (by omega)]
    simp only [if_true]
    have e1 : (bits .andNot .i64 a 255 != 0) = false := by rw [hm]; simp; omega
    have e2 : decide (u < 0) = false := by simp; omega
    have e3 : decide (5 < u) = false := by simp; omega
    clear hm hn hi
    have Hf := fun W => color_any fk fn W
    have Hb := fun W => color_any bk bn W
    have Hl := fun W => color_any lk ln W
    cases c1 : clOk fk fn
    all_goals cases c2 : clOk bk bn
    all_goals cases c3 : clOk lk ln
    all_goals
      simp only [c1, c2, c3, Bool.and_true, Bool.and_false, clErr_t, clErr_f] at Hf Hb Hl ⊢
      have Kf := Lib.hid Hf
      have Kb := Lib.hid Hb
      have Kl := Lib.hid Hl
      clear Hf Hb Hl c1 c2 c3
      go_enter Tryd.func33, Tryd.ntmps33
      go_wp2_with fail
      have ix0 := fun W => idx60_0 (.int .i64 fk) (.int .i64 fn) (.int .i64 bk) (.int .i64 bn) (.int .i64 lk) (.int .i64 ln) W
      have ix1 := fun W => idx60_1 (.int .i64 fk) (.int .i64 fn) (.int .i64 bk) (.int .i64 bn) (.int .i64 lk) (.int .i64 ln) W
      have ix2 := fun W => idx60_2 (.int .i64 fk) (.int .i64 fn) (.int .i64 bk) (.int .i64 bn) (.int .i64 lk) (.int .i64 ln) W
      refine wp_loop_rounds 4 ?_
      repeat (rw [rounds_succ]; go_wp2_with (first | (go_at_call 49; (with_reducible refine (Kf.out _).mono ?_); rintro e w' ⟨rfl, h3, d3, rfl⟩) | (go_at_call 49; (with_reducible refine (Kb.out _).mono ?_); rintro e w' ⟨rfl, h4, d4, rfl⟩) | (go_at_call 49; (with_reducible refine (Kl.out _).mono ?_); rintro e w' ⟨rfl, h5, d5, rfl⟩)))
      go_returns
      exact ⟨rfl, (by repeat' (first | (with_reducible exact Grows.refl _) | (with_reducible refine Grows.alloc ?_ _) | (with_reducible refine Grows.drew ?_) | (with_reducible refine Grows.ext ?_ _ _)))⟩

end Go.Proofs.YtobbphkfdhjmdaaDoor

namespace Go.Proofs.YtobbphkfdhjmdaaDoor
open Go.RowKit


set_option maxHeartbeats 1000000 in
theorem colour_any (k : Nat) (w : World) : Calls Tryd.prog 55 #[.func (.func k) #[] #[]] w (fun e w' => e = .returned (.agg #[.func (.func 56) #[] #[], .bool true, .func (.func 57) #[] #[.pointer (some ⟨w.heap.size, 0, none⟩)]]) ∧ w' = (w.alloc (.cells #[.func (.func k) #[] #[]] 119)).alloc (.cells #[.func (.func 56) #[] #[], .bool true, .func (.func 57) #[] #[.pointer (some ⟨w.heap.size, 0, none⟩)]] 86)) := by
  go_enter Tryd.func55, Tryd.ntmps55
  go_wp2
  go_returns
  exact ⟨rfl, rfl⟩
def FnAt (w : World) (C k : Nat) : Prop := C < w.heap.size ∧ w.cell? ⟨C, 0, none⟩ = some (.func (.func k) #[] #[])
theorem FnAt.grows {w w' : World} {C k : Nat} (h : FnAt w C k) (g : Grows w w') : FnAt w' C k := by
  obtain ⟨x, d, rfl⟩ := g
  exact ⟨by rw [ext_size]; have := h.1; omega, by rw [ext_cell _ _ _ _ _ h.1]; exact h.2⟩
def penEs (C1 C2 C3 : Nat) : Array MapEntry := #[
  { key := .int .i64 0, val := .agg #[.func (.func 56) #[] #[], .bool false, .func (.func 58) #[] #[]], born := 0 },
  { key := .int .i64 1, val := .agg #[.func (.func 59) #[] #[], .bool false, .func (.func 60) #[] #[]], born := 1 },
  { key := .int .i64 2, val := .agg #[.func (.func 61) #[] #[], .bool false, .func (.func 62) #[] #[]], born := 2 },
  { key := .int .i64 3, val := .agg #[.func (.func 63) #[] #[], .bool false, .func (.func 64) #[] #[]], born := 3 },
  { key := .int .i64 4, val := .agg #[.func (.func 56) #[] #[], .bool true, .func (.func 57) #[] #[.pointer (some ⟨C1, 0, none⟩)]], born := 4 },
  { key := .int .i64 5, val := .agg #[.func (.func 56) #[] #[], .bool true, .func (.func 57) #[] #[.pointer (some ⟨C2, 0, none⟩)]], born := 5 },
  { key := .int .i64 6, val := .agg #[.func (.func 56) #[] #[], .bool true, .func (.func 57) #[] #[.pointer (some ⟨C3, 0, none⟩)]], born := 6 }]
def PensAt (w : World) (B C1 C2 C3 : Nat) : Prop := B < w.heap.size ∧ isMap w B = true ∧ mapEs w B = penEs C1 C2 C3 ∧ FnAt w C1 65 ∧ FnAt w C2 66 ∧ FnAt w C3 67
theorem PensAt.grows {w w' : World} {B C1 C2 C3 : Nat} (h : PensAt w B C1 C2 C3) (g : Grows w w') : PensAt w' B C1 C2 C3 := by
  obtain ⟨h0, h1, h2, h3, h4, h5⟩ := h
  have g' := g
  obtain ⟨x, d, rfl⟩ := g
  exact ⟨by rw [ext_size]; omega, by rw [isMap_ext _ _ _ _ h0]; exact h1, by rw [mapEs_ext _ _ _ _ h0]; exact h2, h3.grows g', h4.grows g', h5.grows g'⟩
theorem alloc_mapClk (w : World) (o : Obj) (r : Nat) (hr : r < w.heap.size) : mapClk (w.alloc o) r = mapClk w r := mapClk_alloc w o r hr
@[go_sem] theorem insMap_alloc (w : World) (o : Obj) (r : Nat) (k v : Value) (hr : r < w.heap.size) : insMap (w.alloc o) r k v = (insMap w r k v).alloc o := by
  simp only [insMap, mapEs_alloc w o r hr, mapClk_alloc w o r hr]
  show ({ w with heap := (w.heap.push o).setIfInBounds r _ } : World) = { w with heap := (w.heap.setIfInBounds r _).push o }
  simp only [World.mk.injEq, and_true]
  apply Array.ext_getElem?
  intro i
  simp only [Array.getElem?_setIfInBounds, Array.getElem?_push, Array.size_push, Array.size_setIfInBounds]
  by_cases hi : r = i
  · subst hi
    have h1 : ¬ r = w.heap.size := by omega
    have h2 : r < w.heap.size + 1 := by omega
    simp [h1, h2, hr]
  · simp [hi]
theorem ins67 (w : World) (r : Nat) (k : Int) (v : Value) (h : isMap w r = true) (hf : freshK k (mapEs w r).toList = true) : (Instr.mapUpdate 81 (.map (some r)) (.int .i64 k) v).run Tryd.prog w = .ok () (insMap w r (.int .i64 k) v) :=
  run_ins Tryd.underlying81 Tryd.underlying3 w r k v h hf
set_option maxHeartbeats 8000000 in
theorem pens_full (w : World) : Calls Tryd.prog 34 #[] w (fun e w' => e = .returned (.map (some w.heap.size)) ∧ w' = (((((((w.alloc (.map (penEs (w.heap.size + 1) (w.heap.size + 1 + 1 + 1) (w.heap.size + 1 + 1 + 1 + 1 + 1)) 7)).alloc (.cells #[.func (.func 65) #[] #[]] 119)).alloc (.cells #[.func (.func 56) #[] #[], .bool true, .func (.func 57) #[] #[.pointer (some ⟨w.heap.size + 1, 0, none⟩)]] 86)).alloc (.cells #[.func (.func 66) #[] #[]] 119)).alloc (.cells #[.func (.func 56) #[] #[], .bool true, .func (.func 57) #[] #[.pointer (some ⟨w.heap.size + 1 + 1 + 1, 0, none⟩)]] 86)).alloc (.cells #[.func (.func 67) #[] #[]] 119)).alloc (.cells #[.func (.func 56) #[] #[], .bool true, .func (.func 57) #[] #[.pointer (some ⟨w.heap.size + 1 + 1 + 1 + 1 + 1, 0, none⟩)]] 86))) := by
  have hins := ins67
  have hmm := @run_makeMap Tryd.prog
  go_enter Tryd.func34, Tryd.ntmps34
  go_wp2_with (go_at_call 55; (with_reducible refine (colour_any _ _).mono ?_); rintro e w' ⟨rfl, rfl⟩)
  go_returns
  exact ⟨rfl, rfl⟩
theorem pens_any (w : World) : Calls Tryd.prog 34 #[] w (fun e w' => ∃ B C1 C2 C3 : Nat, e = .returned (.map (some B)) ∧ PensAt w' B C1 C2 C3 ∧ Grows w w' ∧ w.heap.size ≤ B) := by
  refine (pens_full w).mono ?_
  rintro e w' ⟨rfl, rfl⟩
  exact ⟨w.heap.size, w.heap.size + 1, w.heap.size + 1 + 1 + 1, w.heap.size + 1 + 1 + 1 + 1 + 1, rfl, ⟨by simp [go_sem], by simp [go_sem], by simp [go_sem], ⟨by simp [go_sem], by simp [go_sem]⟩, ⟨by simp [go_sem], by simp [go_sem]⟩, ⟨by simp [go_sem], by simp [go_sem]⟩⟩, (by repeat' (first | (with_reducible exact Grows.refl _) | (with_reducible refine Grows.alloc ?_ _) | (with_reducible refine Grows.drew ?_) | (with_reducible refine Grows.ext ?_ _ _))), Nat.le_refl _⟩
end Go.Proofs.YtobbphkfdhjmdaaDoor

namespace Go.Proofs.YtobbphkfdhjmdaaDoor
open Go.RowKit


/-- m is exactly one attribute. -/
def oneB (m : Int) : Bool := m == 1 || (m == 2 || (m == 4 || (m == 8 || (m == 16 || (m == 32 || (m == 64 || m == 128))))))
set_option maxHeartbeats 2000000 in
theorem ones64_any (n : Nat) (hn : n < 256) (w : World) : Calls Tryd.prog 96 #[.int .u64 n] w (fun e w' => ∃ v : Int, e = .returned (.int .i64 v) ∧ (v == 1) = oneB n ∧ w = w') := by
  have h0 : (0 : Int) ≤ n := by omega
  have h1 : (n : Int) < 256 := by omega
  go_enter Tryd.func96, Tryd.ntmps96
  go_wp2
  go_ret
  refine ⟨_, rfl, ?_, rfl⟩
  clear h0 h1 w
  revert n
  decide +kernel
set_option maxHeartbeats 2000000 in
theorem ones_any (n : Nat) (hn : n < 256) (w : World) : Calls Tryd.prog 90 #[.int .u64 n] w (fun e w' => ∃ v : Int, e = .returned (.int .i64 v) ∧ (v == 1) = oneB n ∧ w = w') := by
  go_enter Tryd.func90, Tryd.ntmps90
  go_wp2_with (go_at_call 96; (with_reducible refine (ones64_any n hn _).mono ?_); rintro e w' ⟨v, rfl, hv, rfl⟩)
  go_ret
  exact ⟨v, rfl, hv, rfl⟩
theorem zero_any (m : Int) (w : World) : Calls Tryd.prog 56 #[.int .i64 m] w (Ret (.bool (m == 0)) w) := by
  go_enter Tryd.func56, Tryd.ntmps56
  go_wp2
  go_returns
  exact ⟨rfl, (by repeat' (first | (with_reducible exact Grows.refl _) | (with_reducible refine Grows.alloc ?_ _) | (with_reducible refine Grows.drew ?_) | (with_reducible refine Grows.ext ?_ _ _)))⟩
set_option maxHeartbeats 2000000 in
theorem one_any (m : Int) (hi : In64 m) (w : World) : Calls Tryd.prog 59 #[.int .i64 m] w (Ret (.bool (oneB m)) w) := by
  have hm := mask_ne hi
  by_cases hb : 0 ≤ m ∧ m ≤ 255
  · obtain ⟨n, rfl⟩ : ∃ n : Nat, m = (n : Int) := ⟨m.toNat, by omega⟩
    have hn : n < 256 := by omega
    have e1 : (bits .andNot .i64 (n : Int) 255 == 0) = true := by
      have h2 : (bits .andNot .i64 (n : Int) 255 != 0) = false := by rw [hm]; simp; omega
      simpa using h2
    have h0 : (0 : Int) ≤ n := by omega
    have h1 : (n : Int) < 256 := by omega
    clear hm hb hi
    go_enter Tryd.func59, Tryd.ntmps59
    go_wp2_with (go_at_call 90; (with_reducible refine (ones_any n hn _).mono ?_); rintro e w' ⟨v, rfl, hv, rfl⟩)
    go_returns
    exact ⟨rfl, (by repeat' (first | (with_reducible exact Grows.refl _) | (with_reducible refine Grows.alloc ?_ _) | (with_reducible refine Grows.drew ?_) | (with_reducible refine Grows.ext ?_ _ _)))⟩
  · have e1 : (bits .andNot .i64 m 255 == 0) = false := by
      have h2 : (bits .andNot .i64 m 255 != 0) = true := by rw [hm]; simp; omega
      simpa using h2
    have e2 : oneB m = false := by simp [oneB]; omega
    rw [e2]
    clear hm hb hi e2
    go_enter Tryd.func59, Tryd.ntmps59
    go_wp2
    go_returns
    exact ⟨rfl, (by repeat' (first | (with_reducible exact Grows.refl _) | (with_reducible refine Grows.alloc ?_ _) | (with_reducible refine Grows.drew ?_) | (with_reducible refine Grows.ext ?_ _ _)))⟩
def clrB (m : Int) : Bool := m == 3 || (oneB m && !(m == 1 || m == 2))

theorem clear_1 (w : World) : Calls Tryd.prog 61 #[.int .i64 1] w (Ret (.bool (clrB 1)) w) := by
  rw [show clrB 1 = false by decide]
  go_enter Tryd.func61, Tryd.ntmps61
  go_wp2_with (go_at_call 59; (with_reducible refine (one_any 1 (by unfold In64; omega) _).mono ?_); rw [show oneB 1 = true by decide]; rintro e w' ⟨rfl, h1, d1, rfl⟩)
  go_returns
  exact ⟨rfl, (by repeat' (first | (with_reducible exact Grows.refl _) | (with_reducible refine Grows.alloc ?_ _) | (with_reducible refine Grows.drew ?_) | (with_reducible refine Grows.ext ?_ _ _)))⟩

theorem clear_2 (w : World) : Calls Tryd.prog 61 #[.int .i64 2] w (Ret (.bool (clrB 2)) w) := by
  rw [show clrB 2 = false by decide]
  go_enter Tryd.func61, Tryd.ntmps61
  go_wp2_with (go_at_call 59; (with_reducible refine (one_any 2 (by unfold In64; omega) _).mono ?_); rw [show oneB 2 = true by decide]; rintro e w' ⟨rfl, h1, d1, rfl⟩)
  go_returns
  exact ⟨rfl, (by repeat' (first | (with_reducible exact Grows.refl _) | (with_reducible refine Grows.alloc ?_ _) | (with_reducible refine Grows.drew ?_) | (with_reducible refine Grows.ext ?_ _ _)))⟩

theorem clear_3 (w : World) : Calls Tryd.prog 61 #[.int .i64 3] w (Ret (.bool (clrB 3)) w) := by
  rw [show clrB 3 = true by decide]
  go_enter Tryd.func61, Tryd.ntmps61
  go_wp2_with (go_at_call 59; (with_reducible refine (one_any 3 (by unfold In64; omega) _).mono ?_); rw [show oneB 3 = false by decide]; rintro e w' ⟨rfl, h1, d1, rfl⟩)
  go_returns
  exact ⟨rfl, (by repeat' (first | (with_reducible exact Grows.refl _) | (with_reducible refine Grows.alloc ?_ _) | (with_reducible refine Grows.drew ?_) | (with_reducible refine Grows.ext ?_ _ _)))⟩

theorem clear_4 (w : World) : Calls Tryd.prog 61 #[.int .i64 4] w (Ret (.bool (clrB 4)) w) := by
  rw [show clrB 4 = true by decide]
  go_enter Tryd.func61, Tryd.ntmps61
  go_wp2_with (go_at_call 59; (with_reducible refine (one_any 4 (by unfold In64; omega) _).mono ?_); rw [show oneB 4 = true by decide]; rintro e w' ⟨rfl, h1, d1, rfl⟩)
  go_returns
  exact ⟨rfl, (by repeat' (first | (with_reducible exact Grows.refl _) | (with_reducible refine Grows.alloc ?_ _) | (with_reducible refine Grows.drew ?_) | (with_reducible refine Grows.ext ?_ _ _)))⟩

theorem clear_8 (w : World) : Calls Tryd.prog 61 #[.int .i64 8] w (Ret (.bool (clrB 8)) w) := by
  rw [show clrB 8 = true by decide]
  go_enter Tryd.func61, Tryd.ntmps61
  go_wp2_with (go_at_call 59; (with_reducible refine (one_any 8 (by unfold In64; omega) _).mono ?_); rw [show oneB 8 = true by decide]; rintro e w' ⟨rfl, h1, d1, rfl⟩)
  go_returns
  exact ⟨rfl, (by repeat' (first | (with_reducible exact Grows.refl _) | (with_reducible refine Grows.alloc ?_ _) | (with_reducible refine Grows.drew ?_) | (with_reducible refine Grows.ext ?_ _ _)))⟩

theorem clear_16 (w : World) : Calls Tryd.prog 61 #[.int .i64 16] w (Ret (.bool (clrB 16)) w) := by
  rw [show clrB 16 = true by decide]
  go_enter Tryd.func61, Tryd.ntmps61
  go_wp2_with (go_at_call 59; (with_reducible refine (one_any 16 (by unfold In64; omega) _).mono ?_); rw [show oneB 16 = true by decide]; rintro e w' ⟨rfl, h1, d1, rfl⟩)
  go_returns
  exact ⟨rfl, (by repeat' (first | (with_reducible exact Grows.refl _) | (with_reducible refine Grows.alloc ?_ _) | (with_reducible refine Grows.drew ?_) | (with_reducible refine Grows.ext ?_ _ _)))⟩

theorem clear_32 (w : World) : Calls Tryd.prog 61 #[.int .i64 32] w (Ret (.bool (clrB 32)) w) := by
  rw [show clrB 32 = true by decide]
  go_enter Tryd.func61, Tryd.ntmps61
  go_wp2_with (go_at_call 59; (with_reducible refine (one_any 32 (by unfold In64; omega) _).mono ?_); rw [show oneB 32 = true by decide]; rintro e w' ⟨rfl, h1, d1, rfl⟩)
  go_returns
  exact ⟨rfl, (by repeat' (first | (with_reducible exact Grows.refl _) | (with_reducible refine Grows.alloc ?_ _) | (with_reducible refine Grows.drew ?_) | (with_reducible refine Grows.ext ?_ _ _)))⟩

theorem clear_64 (w : World) : Calls Tryd.prog 61 #[.int .i64 64] w (Ret (.bool (clrB 64)) w) := by
  rw [show clrB 64 = true by decide]
  go_enter Tryd.func61, Tryd.ntmps61
  go_wp2_with (go_at_call 59; (with_reducible refine (one_any 64 (by unfold In64; omega) _).mono ?_); rw [show oneB 64 = true by decide]; rintro e w' ⟨rfl, h1, d1, rfl⟩)
  go_returns
  exact ⟨rfl, (by repeat' (first | (with_reducible exact Grows.refl _) | (with_reducible refine Grows.alloc ?_ _) | (with_reducible refine Grows.drew ?_) | (with_reducible refine Grows.ext ?_ _ _)))⟩

theorem clear_128 (w : World) : Calls Tryd.prog 61 #[.int .i64 128] w (Ret (.bool (clrB 128)) w) := by
  rw [show clrB 128 = true by decide]
  go_enter Tryd.func61, Tryd.ntmps61
  go_wp2_with (go_at_call 59; (with_reducible refine (one_any 128 (by unfold In64; omega) _).mono ?_); rw [show oneB 128 = true by decide]; rintro e w' ⟨rfl, h1, d1, rfl⟩)
  go_returns
  exact ⟨rfl, (by repeat' (first | (with_reducible exact Grows.refl _) | (with_reducible refine Grows.alloc ?_ _) | (with_reducible refine Grows.drew ?_) | (with_reducible refine Grows.ext ?_ _ _)))⟩

theorem clear_any (m : Int) (hi : In64 m) (w : World) : Calls Tryd.prog 61 #[.int .i64 m] w (Ret (.bool (clrB m)) w) := by
  by_cases h : m = 1 ∨ m = 2 ∨ m = 3 ∨ m = 4 ∨ m = 8 ∨ m = 16 ∨ m = 32 ∨ m = 64 ∨ m = 128
  · rcases h with rfl | rfl | rfl | rfl | rfl | rfl | rfl | rfl | rfl
    · exact clear_1 w
    · exact clear_2 w
    · exact clear_3 w
    · exact clear_4 w
    · exact clear_8 w
    · exact clear_16 w
    · exact clear_32 w
    · exact clear_64 w
    · exact clear_128 w
  · have e0 : oneB m = false := by simp [oneB]; omega
    have e1 : (m == 3) = false := by simp; omega
    rw [show clrB m = false by simp [clrB, e0, e1]]
    have H := Lib.hid fun W => one_any m hi W
    rw [e0] at H
    clear h hi e0
    go_enter Tryd.func61, Tryd.ntmps61
    go_wp2_with (go_at_call 59; (with_reducible refine (H.out _).mono ?_); rintro e w' ⟨rfl, h1, d1, rfl⟩)
    go_returns
    exact ⟨rfl, (by repeat' (first | (with_reducible exact Grows.refl _) | (with_reducible refine Grows.alloc ?_ _) | (with_reducible refine Grows.drew ?_) | (with_reducible refine Grows.ext ?_ _ _)))⟩
def undB (m : Int) : Bool := decide (0 ≤ m) && decide (m ≤ 5)
theorem under_any (m : Int) (w : World) : Calls Tryd.prog 63 #[.int .i64 m] w (Ret (.bool (undB m)) w) := by
  unfold undB
  cases e1 : decide (0 ≤ m)
  all_goals
    go_enter Tryd.func63, Tryd.ntmps63
    go_wp2
    go_returns
    exact ⟨rfl, (by repeat' (first | (with_reducible exact Grows.refl _) | (with_reducible refine Grows.alloc ?_ _) | (with_reducible refine Grows.drew ?_) | (with_reducible refine Grows.ext ?_ _ _)))⟩
end Go.Proofs.YtobbphkfdhjmdaaDoor

namespace Go.Proofs.YtobbphkfdhjmdaaDoor
open Go.RowKit


theorem look67 (w : World) (r : Nat) (k : Int) (h : isMap w r = true) (hf : intKeys (mapEs w r).toList = true) : (Instr.lookup 81 (.map (some r)) (.int .i64 k) true).run Tryd.prog w = .ok (.tuple #[(findV (.agg #[.nilFunc, .bool false, .nilFunc]) k (mapEs w r).toList).1, .bool (findV (.agg #[.nilFunc, .bool false, .nilFunc]) k (mapEs w r).toList).2]) w :=
  run_look Tryd.underlying81 Tryd.underlying3 (fun w => by kernel_rfl) w r k true h hf
theorem pens_look (k : Int) (w : World) : Calls Tryd.prog 34 #[] w (fun e w' => ∃ (B C1 C2 C3 : Nat) (h : Array Obj) (d : Nat), e = .returned (.map (some B)) ∧ w' = ext w h d ∧
    (Instr.lookup 81 (.map (some B)) (.int .i64 k) true).run Tryd.prog (ext w h d) = .ok (.tuple #[(findV (.agg #[.nilFunc, .bool false, .nilFunc]) k (penEs C1 C2 C3).toList).1, .bool (findV (.agg #[.nilFunc, .bool false, .nilFunc]) k (penEs C1 C2 C3).toList).2]) (ext w h d) ∧
    (∀ o, (Instr.lookup 81 (.map (some B)) (.int .i64 k) true).run Tryd.prog ((ext w h d).alloc o) = .ok (.tuple #[(findV (.agg #[.nilFunc, .bool false, .nilFunc]) k (penEs C1 C2 C3).toList).1, .bool (findV (.agg #[.nilFunc, .bool false, .nilFunc]) k (penEs C1 C2 C3).toList).2]) ((ext w h d).alloc o))) := by
  refine (pens_any w).mono ?_
  rintro e w' ⟨B, C1, C2, C3, rfl, ⟨b0, b1, b2, b3, b4, b5⟩, ⟨h1, d1, rfl⟩, hle⟩
  refine ⟨B, C1, C2, C3, h1, d1, rfl, rfl, ?_, fun o => ?_⟩
  · have := look67 (ext w h1 d1) B k b1 (by rw [b2]; rfl)
    rw [b2] at this
    exact this
  · have := look67 ((ext w h1 d1).alloc o) B k (by rw [isMap_alloc _ _ _ b0]; exact b1) (by rw [mapEs_alloc _ _ _ b0, b2]; rfl)
    rw [mapEs_alloc _ _ _ b0, b2] at this
    exact this
@[go_sem] theorem intKeys_pen (C1 C2 C3 : Nat) : intKeys (penEs C1 C2 C3).toList = true := rfl
@[go_sem] theorem findV_pen0 (z : Value) (C1 C2 C3 : Nat) : findV z 0 (penEs C1 C2 C3).toList = (.agg #[.func (.func 56) #[] #[], .bool false, .func (.func 58) #[] #[]], true) := rfl
@[go_sem] theorem findV_pen1 (z : Value) (C1 C2 C3 : Nat) : findV z 1 (penEs C1 C2 C3).toList = (.agg #[.func (.func 59) #[] #[], .bool false, .func (.func 60) #[] #[]], true) := rfl
@[go_sem] theorem findV_pen2 (z : Value) (C1 C2 C3 : Nat) : findV z 2 (penEs C1 C2 C3).toList = (.agg #[.func (.func 61) #[] #[], .bool false, .func (.func 62) #[] #[]], true) := rfl
@[go_sem] theorem findV_pen3 (z : Value) (C1 C2 C3 : Nat) : findV z 3 (penEs C1 C2 C3).toList = (.agg #[.func (.func 63) #[] #[], .bool false, .func (.func 64) #[] #[]], true) := rfl
@[go_sem] theorem findV_pen4 (z : Value) (C1 C2 C3 : Nat) : findV z 4 (penEs C1 C2 C3).toList = (.agg #[.func (.func 56) #[] #[], .bool true, .func (.func 57) #[] #[.pointer (some ⟨C1, 0, none⟩)]], true) := rfl
@[go_sem] theorem findV_pen5 (z : Value) (C1 C2 C3 : Nat) : findV z 5 (penEs C1 C2 C3).toList = (.agg #[.func (.func 56) #[] #[], .bool true, .func (.func 57) #[] #[.pointer (some ⟨C2, 0, none⟩)]], true) := rfl
@[go_sem] theorem findV_pen6 (z : Value) (C1 C2 C3 : Nat) : findV z 6 (penEs C1 C2 C3).toList = (.agg #[.func (.func 56) #[] #[], .bool true, .func (.func 57) #[] #[.pointer (some ⟨C3, 0, none⟩)]], true) := rfl
theorem findV_pen_no (z : Value) (C1 C2 C3 : Nat) (k : Int) (h : ¬ (0 ≤ k ∧ k ≤ 6)) : findV z k (penEs C1 C2 C3).toList = (z, false) := by
  have e : ∀ j : Int, 0 ≤ j → j ≤ 6 → (k == j) = false := fun j h1 h2 => by simp; omega
  show findV z k [_, _, _, _, _, _, _] = _
  simp only [findV, e 0 (by omega) (by omega), e 1 (by omega) (by omega), e 2 (by omega) (by omega), e 3 (by omega) (by omega), e 4 (by omega) (by omega), e 5 (by omega) (by omega), e 6 (by omega) (by omega), Bool.false_eq_true, if_false]
def ActAt (w : World) (B : Nat) (kd n m ck cn : Int) (s : ByteArray) : Prop := B < w.heap.size ∧ w.cell? ⟨B, 0, none⟩ = some (.int .i64 kd) ∧ w.cell? ⟨B, 1, none⟩ = some (.int .i64 n) ∧ w.cell? ⟨B, 2, none⟩ = some (.int .i64 m) ∧ w.cell? ⟨B, 3, none⟩ = some (.int .i64 ck) ∧ w.cell? ⟨B, 4, none⟩ = some (.int .i64 cn) ∧ w.cell? ⟨B, 5, none⟩ = some (.string s)
def EntAt (w : World) (C : Nat) (x y : Value) : Prop := C < w.heap.size ∧ w.cell? ⟨C, 0, none⟩ = some x ∧ w.cell? ⟨C, 1, none⟩ = some y
def mayB (n m : Int) : Bool := if n = 0 then m == 0 else if n = 1 then oneB m else if n = 2 then clrB m else if n = 3 then undB m else m == 0
def colB (n ck cn : Int) : Bool := if n < 4 then (ck == 0 && cn == 0) else clOk ck cn
/-- A pen is valid. -/
def pnB (kd n m ck cn : Int) (s : ByteArray) : Bool := (kd == 39) && (s.toList.isEmpty && (decide (0 ≤ n ∧ n ≤ 6) && (mayB n m && colB n ck cn)))
def pnErr (kd n m ck cn : Int) (s : ByteArray) : Int := if pnB kd n m ck cn s then 0 else 141
end Go.Proofs.YtobbphkfdhjmdaaDoor

namespace Go.Proofs.YtobbphkfdhjmdaaDoor
open Go.RowKit

theorem efs_cons {P : Program} {d : Nat} {xs ys : Array Value} {f : Field} {fs : List Field} {a b : Value} {q q' : Bool} {w : World} (hn : f.name ≠ "_") (ha : (part f.type xs f.offset).run P w = .ok a w) (hb : (part f.type ys f.offset).run P w = .ok b w) (hr : (Op.equalIn d f.type a b).run P w = .ok q w) (h : (Op.eqFields d xs ys fs).run P w = .ok q' w) : (Op.eqFields d xs ys (f :: fs)).run P w = .ok (q && q') w := by
  simp only [Op.eqFields, if_pos hn, Sem.run_bind, ha, hb, hr, Result.andThen_ok]
  cases q
  · simp
  · simpa using h
theorem efs_last {P : Program} {d : Nat} {xs ys : Array Value} {f : Field} {a b : Value} {q : Bool} {w : World} (hn : f.name ≠ "_") (ha : (part f.type xs f.offset).run P w = .ok a w) (hb : (part f.type ys f.offset).run P w = .ok b w) (hr : (Op.equalIn d f.type a b).run P w = .ok q w) : (Op.eqFields d xs ys [f]).run P w = .ok q w := by
  have h := efs_cons (fs := []) (q' := true) hn ha hb hr rfl
  rwa [Bool.and_true] at h
theorem int_eq (d : Nat) (w : World) (a b : Int) : (Op.equalIn (d + 1) 3 (.int .i64 a) (.int .i64 b)).run Tryd.prog w = .ok (a == b) w := run_equalIn_int w d 3 .i64 .i64 a b Tryd.underlying3
theorem str_eq (d : Nat) (w : World) (a b : ByteArray) : (Op.equalIn (d + 1) 9 (.string a) (.string b)).run Tryd.prog w = .ok (a.toList == b.toList) w := run_equalIn_string w d 9 a b Tryd.underlying9
theorem und_24 : Tryd.prog.underlying 24 = some (.struct (Tryd.prog.fieldsOf 24)) := by kernel_rfl
theorem stood_24 : Tryd.prog.stoodInHeld 24 = false := by kernel_rfl
set_option maxRecDepth 100000 in
theorem col_eq (d : Nat) (w : World) (k n k' n' : Int) : (Op.equalIn (d + 2) 24 (.agg #[.int .i64 k, .int .i64 n]) (.agg #[.int .i64 k', .int .i64 n'])).run Tryd.prog w = .ok ((k == k') && ((n == n'))) w := by
  refine (run_equalIn_struct w (d + 1) 24 _ _ und_24 stood_24).trans ?_
  simp only [Program.fieldsOf, Tryd.underlying24]
  refine efs_cons (by decide) (by kernel_rfl) (by kernel_rfl) (int_eq _ _ _ _) ?_
  exact efs_last (by decide) (by kernel_rfl) (by kernel_rfl) (int_eq _ _ _ _)
theorem und_26 : Tryd.prog.underlying 26 = some (.struct (Tryd.prog.fieldsOf 26)) := by kernel_rfl
theorem stood_26 : Tryd.prog.stoodInHeld 26 = false := by kernel_rfl
set_option maxRecDepth 100000 in
theorem act_eq0 (d : Nat) (w : World) (x0 x1 x2 x3 x4 y0 y1 y2 y3 y4 : Int) (x5 y5 : ByteArray) : (Op.equalIn (d + 3) 26 (.agg #[.int .i64 x0, .int .i64 x1, .int .i64 x2, .int .i64 x3, .int .i64 x4, .string x5]) (.agg #[.int .i64 y0, .int .i64 y1, .int .i64 y2, .int .i64 y3, .int .i64 y4, .string y5])).run Tryd.prog w = .ok ((x0 == y0) && ((x1 == y1) && ((x2 == y2) && (((x3 == y3) && (x4 == y4)) && (x5.toList == y5.toList))))) w := by
  refine (run_equalIn_struct w (d + 2) 26 _ _ und_26 stood_26).trans ?_
  simp only [Program.fieldsOf, Tryd.underlying26]
  refine efs_cons (by decide) (by kernel_rfl) (by kernel_rfl) (int_eq _ _ _ _) ?_
  refine efs_cons (by decide) (by kernel_rfl) (by kernel_rfl) (int_eq _ _ _ _) ?_
  refine efs_cons (by decide) (by kernel_rfl) (by kernel_rfl) (int_eq _ _ _ _) ?_
  refine efs_cons (by decide) (by kernel_rfl) (by kernel_rfl) (col_eq _ _ _ _ _ _) ?_
  exact efs_last (by decide) (by kernel_rfl) (by kernel_rfl) (str_eq _ _ _ _)
theorem act_eq (w : World) (x0 x1 x2 x3 x4 y0 y1 y2 y3 y4 : Int) (x5 y5 : ByteArray) : (Op.equalIn 10000 26 (.agg #[.int .i64 x0, .int .i64 x1, .int .i64 x2, .int .i64 x3, .int .i64 x4, .string x5]) (.agg #[.int .i64 y0, .int .i64 y1, .int .i64 y2, .int .i64 y3, .int .i64 y4, .string y5])).run Tryd.prog w = .ok (sameA ⟨x0, x1, x2, x3, x4, x5⟩ ⟨y0, y1, y2, y3, y4, y5⟩) w := by
  rw [act_eq0 9997 w]
  simp only [sameA, Bool.and_assoc]
def sameL : List ActV → List ActV → Bool
  | [], [] => true
  | x :: a, y :: b => sameA x y && sameL a b
  | _, _ => false
theorem sameL_snoc : ∀ {la lb : List ActV} {k : Nat}, k < la.length → k < lb.length → sameL (la.take (k + 1)) (lb.take (k + 1)) = (sameL (la.take k) (lb.take k) && sameA (la[k]?.getD actD) (lb[k]?.getD actD))
  | [], _, _, h, _ => by simp at h
  | _ :: _, [], _, _, h => by simp at h
  | x :: a, y :: b, 0, _, _ => by simp [sameL]
  | x :: a, y :: b, k + 1, h1, h2 => by
    have ih := sameL_snoc (la := a) (lb := b) (k := k) (by simpa using h1) (by simpa using h2)
    simp only [List.take_succ_cons, sameL, List.getElem?_cons_succ] at ih ⊢
    rw [ih, Bool.and_assoc]
theorem sameL_out : ∀ {la lb : List ActV} {k : Nat}, k < la.length → k < lb.length → sameA (la[k]?.getD actD) (lb[k]?.getD actD) = false → sameL la lb = false
  | [], _, _, h, _, _ => by simp at h
  | _ :: _, [], _, _, h, _ => by simp at h
  | x :: a, y :: b, 0, _, _, h => by simp at h; simp [sameL, h]
  | x :: a, y :: b, k + 1, h1, h2, h => by
    have ih := sameL_out (la := a) (lb := b) (k := k) (by simpa using h1) (by simpa using h2) (by simpa using h)
    simp [sameL, ih]
set_option maxRecDepth 100000 in
set_option maxHeartbeats 4000000 in
theorem same_any (va vb : Value) (la lb : List ActV) (hl : la.length ≤ 100000) (_hlb : lb.length ≤ 100000) (w : World) (ha : ActsAt w va la) (hb : ActsAt w vb lb) (hlen : la.length = lb.length) : Calls Tryd.prog 23 #[va, vb] w (Ret (.bool (sameL la lb)) w) := by
  obtain ⟨a, cap, rfl, -, hin⟩ := ha
  obtain ⟨a', cap', rfl, -, hin'⟩ := hb
  have Hin := Lib.hid hin
  have Hin' := Lib.hid hin'
  have Hlen := Lib.hid hlen
  rw [← hlen]
  clear hin hin' hlen
  go_enter Tryd.func23, Tryd.ntmps23
  go_wp2_with fail
  go_loopw [5] (fun i wr' => ∃ (wv : World) (k : Nat), wv = wr' ∧ k ≤ la.length ∧ i = .int .i64 k ∧ sameL (la.take k) (lb.take k) = true ∧ Grows w wv) (fun i _ => la.length - (intOf i).toNat)
  case atStart => exact ⟨_, 0, rfl, Nat.zero_le _, rfl, rfl, Grows.refl _⟩
  case round =>
    obtain ⟨wa, k, rfl, hk, rfl, hw, hG⟩ := hrel
    have HG := Lib.hid hG
    have Hw := Lib.hid hw
    clear hw
    by_cases hlt : k < la.length
    · obtain ⟨b, off, rfl, hb, hc⟩ := (Hin.out.grows hG) (by rintro rfl; simp at hlt)
      obtain ⟨b', off', rfl, hb', hc'⟩ := (Hin'.out.grows hG) (by intro e; have := Hlen.out; rw [e] at this; simp at this; rw [this] at hlt; simp at hlt)
      obtain ⟨c0, c1, c2, c3, c4, c5⟩ := hc k hlt
      obtain ⟨d0, d1, d2, d3, d4, d5⟩ := hc' k (by have := Hlen.out; omega)
      have e1 : decide (k < la.length) = true := by simpa using hlt
      have i1 : (0 : Int) ≤ (k : Int) := by omega
      have i2 : (k : Int) < (la.length : Int) := by omega
      have hlt' : k < lb.length := by have := Hlen.out; omega
      clear hc hc' hG
      generalize hx : la[k]?.getD actD = x at *
      generalize hy : lb[k]?.getD actD = y at *
      obtain ⟨x0, x1, x2, x3, x4, x5⟩ := x
      obtain ⟨y0, y1, y2, y3, y4, y5⟩ := y
      dsimp only at c0 c1 c2 c3 c4 c5 d0 d1 d2 d3 d4 d5
      have hq := act_eq
      generalize hs : sameA ⟨x0, x1, x2, x3, x4, x5⟩ ⟨y0, y1, y2, y3, y4, y5⟩ = q at *
      go_upto_region 6 with fail
      refine wp_region_grow (by kernel_rfl) (by kernel_rfl) ?_
      repeat (first | go_big_quiet_step ((fail)) | quiet_step ((fail)))
      refine wpQuiet_nil ?_
      rintro _ ⟨g67, rfl⟩
      cases q with
      | true =>
        go_wp2_with fail
        go_roundw
        case rel => exact ⟨_, k + 1, rfl, by omega, by go_num, by rw [sameL_snoc hlt hlt', Hw.out, hx, hy, hs]; rfl, (by repeat' (first | (with_reducible exact HG.out) | (with_reducible refine Grows.drew ?_) | (with_reducible refine Grows.ext ?_ _ _)))⟩
        case measure => simp [intOf]; omega
      | false =>
        go_wp2_with fail
        go_ret
        exact ⟨ret_bool (sameL_out hlt hlt' (by rw [hx, hy, hs])).symm, (by repeat' (first | (with_reducible exact HG.out) | (with_reducible refine Grows.drew ?_) | (with_reducible refine Grows.ext ?_ _ _)))⟩
    · have e : decide (k < la.length) = false := by simp; omega
      go_wp2_with fail
      go_ret
      have hw := Hw.out
      rw [List.take_of_length_le (by omega), List.take_of_length_le (by have := Hlen.out; omega)] at hw
      exact ⟨ret_bool hw.symm, hG⟩
end Go.Proofs.YtobbphkfdhjmdaaDoor

