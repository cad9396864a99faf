/-
  Walks: the colors.
-/
import Derived.Test.YtepbknpdhiaepaaRows
import Derived.Test.YtepbknpdhiaepaaLt
import Derived.Test.YtepbknpdhiaepaaDefs
import Derived.WalkKit
import Derived.WalkSpells
import Derived.WalkLawsBesides
import Derived.Handy
import Derived.Laws.EntriesVeiled
import Derived.Lib.Hide
import Derived.Deep.Light
import Derived.Deep.LoopGhost
import Derived.BigGuardPart
import Derived.BigQuiet
import Derived.Deep.QuietTactic
import Derived.Deep.RegionHeld3
import Derived.Test.YtepbknpdhiaepaaReg
namespace Go.Proofs.Ytepbknpdhiaepaa
open Go.RowKit


/-- A color is valid. -/
def clOk (k n : Int) : Bool := decide ((k = 0 ∧ n = 0) ∨ (k = 1 ∧ 0 ≤ n ∧ n ≤ 255) ∨ (k = 2 ∧ 0 ≤ n ∧ n ≤ 16777215))
def clErr (x : Bool) : Int := if x then 0 else 130
@[simp] theorem clErr_t : clErr true = 0 := rfl
@[simp] theorem clErr_f : clErr false = 130 := rfl
theorem clOk_t {k n : Int} (h : (k = 0 ∧ n = 0) ∨ (k = 1 ∧ 0 ≤ n ∧ n ≤ 255) ∨ (k = 2 ∧ 0 ≤ n ∧ n ≤ 16777215)) : clOk k n = true := decide_eq_true h
theorem clOk_f {k n : Int} (h : ¬ ((k = 0 ∧ n = 0) ∨ (k = 1 ∧ 0 ≤ n ∧ n ≤ 255) ∨ (k = 2 ∧ 0 ≤ n ∧ n ≤ 16777215))) : clOk k n = false := decide_eq_false h
theorem limits_any (w : World) : Calls Try.prog 68 #[] w (Ret (.agg #[.int .i64 0, .int .i64 255, .int .i64 16777215]) w) := by
  go_enter Try.func68, Try.ntmps68
  go_wp2
  go_returns
  exact ⟨rfl, (by repeat' (first | (with_reducible exact Grows.refl _) | (with_reducible refine Grows.alloc ?_ _) | (with_reducible refine Grows.drew ?_) | (with_reducible refine Grows.ext ?_ _ _)))⟩

set_option maxHeartbeats 2000000 in
theorem rcolor_any (k n : Int) (w : World) : Calls Try.prog 67 #[.agg #[.int .i64 k, .int .i64 n]] w (Ret (.int .i64 (clErr (clOk k n))) w) := by
  have hc : (k = 0 ∧ n = 0) ∨ (k = 0 ∧ n ≠ 0) ∨ (k = 1 ∧ n < 0) ∨ (k = 1 ∧ 0 ≤ n ∧ n ≤ 255) ∨ (k = 1 ∧ 255 < n) ∨ (k = 2 ∧ n < 0) ∨ (k = 2 ∧ 0 ≤ n ∧ n ≤ 16777215) ∨ (k = 2 ∧ 16777215 < n) ∨ (k ≠ 0 ∧ k ≠ 1 ∧ k ≠ 2) := by omega
  rcases hc with ⟨rfl, hn⟩ | ⟨rfl, hn⟩ | ⟨rfl, hn⟩ | ⟨rfl, hn, hn2⟩ | ⟨rfl, hn⟩ | ⟨rfl, hn⟩ | ⟨rfl, hn, hn2⟩ | ⟨rfl, hn⟩ | ⟨hn, hn2, hn3⟩
  all_goals first
    | rw [clOk_t (by omega)]
    | rw [clOk_f (by omega)]
  · have e1 : (n == 0) = true := by simp [hn]
    clear hn
    go_enter Try.func67, Try.ntmps67
    go_wp2
    go_returns
    exact ⟨rfl, (by repeat' (first | (with_reducible exact Grows.refl _) | (with_reducible refine Grows.alloc ?_ _) | (with_reducible refine Grows.drew ?_) | (with_reducible refine Grows.ext ?_ _ _)))⟩
  · have e1 : (n == 0) = false := by simp [hn]
    clear hn
    go_enter Try.func67, Try.ntmps67
    go_wp2
    go_returns
    exact ⟨rfl, (by repeat' (first | (with_reducible exact Grows.refl _) | (with_reducible refine Grows.alloc ?_ _) | (with_reducible refine Grows.drew ?_) | (with_reducible refine Grows.ext ?_ _ _)))⟩
  · have e1 : decide (0 ≤ n) = false := by simp; omega
    clear hn
    go_enter Try.func67, Try.ntmps67
    go_wp2
    go_returns
    exact ⟨rfl, (by repeat' (first | (with_reducible exact Grows.refl _) | (with_reducible refine Grows.alloc ?_ _) | (with_reducible refine Grows.drew ?_) | (with_reducible refine Grows.ext ?_ _ _)))⟩
  · have e1 : decide (0 ≤ n) = true := by simp; omega
    have e2 : decide (n ≤ 255) = true := by simp; omega
    clear hn hn2
    go_enter Try.func67, Try.ntmps67
    go_wp2
    go_returns
    exact ⟨rfl, (by repeat' (first | (with_reducible exact Grows.refl _) | (with_reducible refine Grows.alloc ?_ _) | (with_reducible refine Grows.drew ?_) | (with_reducible refine Grows.ext ?_ _ _)))⟩
  · have e1 : decide (0 ≤ n) = true := by simp; omega
    have e2 : decide (n ≤ 255) = false := by simp; omega
    clear hn
    go_enter Try.func67, Try.ntmps67
    go_wp2
    go_returns
    exact ⟨rfl, (by repeat' (first | (with_reducible exact Grows.refl _) | (with_reducible refine Grows.alloc ?_ _) | (with_reducible refine Grows.drew ?_) | (with_reducible refine Grows.ext ?_ _ _)))⟩
  · have e1 : decide (0 ≤ n) = false := by simp; omega
    clear hn
    go_enter Try.func67, Try.ntmps67
    go_wp2
    go_returns
    exact ⟨rfl, (by repeat' (first | (with_reducible exact Grows.refl _) | (with_reducible refine Grows.alloc ?_ _) | (with_reducible refine Grows.drew ?_) | (with_reducible refine Grows.ext ?_ _ _)))⟩
  · have e1 : decide (0 ≤ n) = true := by simp; omega
    have e2 : decide (n ≤ 16777215) = true := by simp; omega
    clear hn hn2
    go_enter Try.func67, Try.ntmps67
    go_wp2
    go_returns
    exact ⟨rfl, (by repeat' (first | (with_reducible exact Grows.refl _) | (with_reducible refine Grows.alloc ?_ _) | (with_reducible refine Grows.drew ?_) | (with_reducible refine Grows.ext ?_ _ _)))⟩
  · have e1 : decide (0 ≤ n) = true := by simp; omega
    have e2 : decide (n ≤ 16777215) = false := by simp; omega
    clear hn
    go_enter Try.func67, Try.ntmps67
    go_wp2
    go_returns
    exact ⟨rfl, (by repeat' (first | (with_reducible exact Grows.refl _) | (with_reducible refine Grows.alloc ?_ _) | (with_reducible refine Grows.drew ?_) | (with_reducible refine Grows.ext ?_ _ _)))⟩
  · have e1 : (k == 0) = false := by simp [hn]
    have e2 : (k == 1) = false := by simp [hn2]
    have e3 : (k == 2) = false := by simp [hn3]
    clear hn hn2 hn3
    go_enter Try.func67, Try.ntmps67
    go_wp2
    go_returns
    exact ⟨rfl, (by repeat' (first | (with_reducible exact Grows.refl _) | (with_reducible refine Grows.alloc ?_ _) | (with_reducible refine Grows.drew ?_) | (with_reducible refine Grows.ext ?_ _ _)))⟩

set_option maxHeartbeats 4000000 in
theorem color_any (k n : Int) (w : World) : Calls Try.prog 66 #[.agg #[.int .i64 k, .int .i64 n]] w (Ret (.int .i64 (clErr (clOk k n))) w) := by
  have hc : k < 0 ∨ (0 ≤ k ∧ 3 ≤ k) ∨ (k = 0 ∧ n < 0) ∨ (k = 0 ∧ 0 ≤ n ∧ 0 < n) ∨ (k = 0 ∧ 0 ≤ n ∧ n ≤ 0) ∨ (k = 1 ∧ n < 0) ∨ (k = 1 ∧ 0 ≤ n ∧ 255 < n) ∨ (k = 1 ∧ 0 ≤ n ∧ n ≤ 255) ∨ (k = 2 ∧ n < 0) ∨ (k = 2 ∧ 0 ≤ n ∧ 16777215 < n) ∨ (k = 2 ∧ 0 ≤ n ∧ n ≤ 16777215) := by omega
  rcases hc with hn | ⟨hn, hn2⟩ | ⟨rfl, hn⟩ | ⟨rfl, hn, hn2⟩ | ⟨rfl, hn, hn2⟩ | ⟨rfl, hn⟩ | ⟨rfl, hn, hn2⟩ | ⟨rfl, hn, hn2⟩ | ⟨rfl, hn⟩ | ⟨rfl, hn, hn2⟩ | ⟨rfl, hn, hn2⟩
  all_goals first
    | rw [clOk_t (by omega)]
    | rw [clOk_f (by omega)]
  · have e1 : decide (k < 0) = true := by simp; omega
    clear hn
    go_enter Try.func66, Try.ntmps66
    go_wp2_with (first | (go_at_call 68; (with_reducible refine (limits_any _).mono ?_); rintro e w' ⟨rfl, h11, d11, rfl⟩))
    refine wp_region_grow (by kernel_rfl) (by kernel_rfl) ?_
    repeat (first | go_big_quiet_step ((fail)) | quiet_step ((fail)))
    refine wpQuiet_nil ?_
    rintro _ ⟨g12, rfl⟩
    go_wp2
    go_returns
    exact ⟨rfl, (by repeat' (first | (with_reducible exact Grows.refl _) | (with_reducible refine Grows.alloc ?_ _) | (with_reducible refine Grows.drew ?_) | (with_reducible refine Grows.ext ?_ _ _)))⟩
  · have e1 : decide (k < 0) = false := by simp; omega
    have e2 : decide (3 ≤ k) = true := by simp; omega
    clear hn hn2
    go_enter Try.func66, Try.ntmps66
    go_wp2_with (first | (go_at_call 68; (with_reducible refine (limits_any _).mono ?_); rintro e w' ⟨rfl, h11, d11, rfl⟩))
    refine wp_region_grow (by kernel_rfl) (by kernel_rfl) ?_
    repeat (first | go_big_quiet_step ((fail)) | quiet_step ((fail)))
    refine wpQuiet_nil ?_
    rintro _ ⟨g13, rfl⟩
    go_wp2
    go_returns
    exact ⟨rfl, (by repeat' (first | (with_reducible exact Grows.refl _) | (with_reducible refine Grows.alloc ?_ _) | (with_reducible refine Grows.drew ?_) | (with_reducible refine Grows.ext ?_ _ _)))⟩
  · have e1 : decide (n < 0) = true := by simp; omega
    clear hn
    go_enter Try.func66, Try.ntmps66
    go_wp2_with (first | (go_at_call 68; (with_reducible refine (limits_any _).mono ?_); rintro e w' ⟨rfl, h11, d11, rfl⟩))
    refine wp_region_grow (by kernel_rfl) (by kernel_rfl) ?_
    repeat (first | go_big_quiet_step ((fail)) | quiet_step ((fail)))
    refine wpQuiet_nil ?_
    rintro _ ⟨g14, rfl⟩
    go_wp2
    go_returns
    exact ⟨rfl, (by repeat' (first | (with_reducible exact Grows.refl _) | (with_reducible refine Grows.alloc ?_ _) | (with_reducible refine Grows.drew ?_) | (with_reducible refine Grows.ext ?_ _ _)))⟩
  · have e1 : decide (n < 0) = false := by simp; omega
    have e2 : decide (0 < n) = true := by simp; omega
    clear hn hn2
    go_enter Try.func66, Try.ntmps66
    go_wp2_with (first | (go_at_call 68; (with_reducible refine (limits_any _).mono ?_); rintro e w' ⟨rfl, h11, d11, rfl⟩))
    refine wp_region_grow (by kernel_rfl) (by kernel_rfl) ?_
    repeat (first | go_big_quiet_step ((fail)) | quiet_step ((fail)))
    refine wpQuiet_nil ?_
    rintro _ ⟨g15, rfl⟩
    go_wp2
    go_returns
    exact ⟨rfl, (by repeat' (first | (with_reducible exact Grows.refl _) | (with_reducible refine Grows.alloc ?_ _) | (with_reducible refine Grows.drew ?_) | (with_reducible refine Grows.ext ?_ _ _)))⟩
  · have e1 : decide (n < 0) = false := by simp; omega
    have e2 : decide (0 < n) = false := by simp; omega
    clear hn hn2
    go_enter Try.func66, Try.ntmps66
    go_wp2_with (first | (go_at_call 68; (with_reducible refine (limits_any _).mono ?_); rintro e w' ⟨rfl, h11, d11, rfl⟩))
    refine wp_region_grow (by kernel_rfl) (by kernel_rfl) ?_
    repeat (first | go_big_quiet_step ((fail)) | quiet_step ((fail)))
    refine wpQuiet_nil ?_
    rintro _ ⟨g16, rfl⟩
    go_wp2
    go_returns
    exact ⟨rfl, (by repeat' (first | (with_reducible exact Grows.refl _) | (with_reducible refine Grows.alloc ?_ _) | (with_reducible refine Grows.drew ?_) | (with_reducible refine Grows.ext ?_ _ _)))⟩
  · have e1 : decide (n < 0) = true := by simp; omega
    clear hn
    go_enter Try.func66, Try.ntmps66
    go_wp2_with (first | (go_at_call 68; (with_reducible refine (limits_any _).mono ?_); rintro e w' ⟨rfl, h11, d11, rfl⟩))
    refine wp_region_grow (by kernel_rfl) (by kernel_rfl) ?_
    repeat (first | go_big_quiet_step ((fail)) | quiet_step ((fail)))
    refine wpQuiet_nil ?_
    rintro _ ⟨g17, rfl⟩
    go_wp2
    go_returns
    exact ⟨rfl, (by repeat' (first | (with_reducible exact Grows.refl _) | (with_reducible refine Grows.alloc ?_ _) | (with_reducible refine Grows.drew ?_) | (with_reducible refine Grows.ext ?_ _ _)))⟩
  · have e1 : decide (n < 0) = false := by simp; omega
    have e2 : decide (255 < n) = true := by simp; omega
    clear hn hn2
    go_enter Try.func66, Try.ntmps66
    go_wp2_with (first | (go_at_call 68; (with_reducible refine (limits_any _).mono ?_); rintro e w' ⟨rfl, h11, d11, rfl⟩))
    refine wp_region_grow (by kernel_rfl) (by kernel_rfl) ?_
    repeat (first | go_big_quiet_step ((fail)) | quiet_step ((fail)))
    refine wpQuiet_nil ?_
    rintro _ ⟨g18, rfl⟩
    go_wp2
    go_returns
    exact ⟨rfl, (by repeat' (first | (with_reducible exact Grows.refl _) | (with_reducible refine Grows.alloc ?_ _) | (with_reducible refine Grows.drew ?_) | (with_reducible refine Grows.ext ?_ _ _)))⟩
  · have e1 : decide (n < 0) = false := by simp; omega
    have e2 : decide (255 < n) = false := by simp; omega
    clear hn hn2
    go_enter Try.func66, Try.ntmps66
    go_wp2_with (first | (go_at_call 68; (with_reducible refine (limits_any _).mono ?_); rintro e w' ⟨rfl, h11, d11, rfl⟩))
    refine wp_region_grow (by kernel_rfl) (by kernel_rfl) ?_
    repeat (first | go_big_quiet_step ((fail)) | quiet_step ((fail)))
    refine wpQuiet_nil ?_
    rintro _ ⟨g19, rfl⟩
    go_wp2
    go_returns
    exact ⟨rfl, (by repeat' (first | (with_reducible exact Grows.refl _) | (with_reducible refine Grows.alloc ?_ _) | (with_reducible refine Grows.drew ?_) | (with_reducible refine Grows.ext ?_ _ _)))⟩
  · have e1 : decide (n < 0) = true := by simp; omega
    clear hn
    go_enter Try.func66, Try.ntmps66
    go_wp2_with (first | (go_at_call 68; (with_reducible refine (limits_any _).mono ?_); rintro e w' ⟨rfl, h11, d11, rfl⟩))
    refine wp_region_grow (by kernel_rfl) (by kernel_rfl) ?_
    repeat (first | go_big_quiet_step ((fail)) | quiet_step ((fail)))
    refine wpQuiet_nil ?_
    rintro _ ⟨g20, rfl⟩
    go_wp2
    go_returns
    exact ⟨rfl, (by repeat' (first | (with_reducible exact Grows.refl _) | (with_reducible refine Grows.alloc ?_ _) | (with_reducible refine Grows.drew ?_) | (with_reducible refine Grows.ext ?_ _ _)))⟩
  · have e1 : decide (n < 0) = false := by simp; omega
    have e2 : decide (16777215 < n) = true := by simp; omega
    clear hn hn2
    go_enter Try.func66, Try.ntmps66
    go_wp2_with (first | (go_at_call 68; (with_reducible refine (limits_any _).mono ?_); rintro e w' ⟨rfl, h11, d11, rfl⟩))
    refine wp_region_grow (by kernel_rfl) (by kernel_rfl) ?_
    repeat (first | go_big_quiet_step ((fail)) | quiet_step ((fail)))
    refine wpQuiet_nil ?_
    rintro _ ⟨g21, rfl⟩
    go_wp2
    go_returns
    exact ⟨rfl, (by repeat' (first | (with_reducible exact Grows.refl _) | (with_reducible refine Grows.alloc ?_ _) | (with_reducible refine Grows.drew ?_) | (with_reducible refine Grows.ext ?_ _ _)))⟩
  · have e1 : decide (n < 0) = false := by simp; omega
    have e2 : decide (16777215 < n) = false := by simp; omega
    clear hn hn2
    go_enter Try.func66, Try.ntmps66
    go_wp2_with (first | (go_at_call 68; (with_reducible refine (limits_any _).mono ?_); rintro e w' ⟨rfl, h11, d11, rfl⟩))
    refine wp_region_grow (by kernel_rfl) (by kernel_rfl) ?_
    repeat (first | go_big_quiet_step ((fail)) | quiet_step ((fail)))
    refine wpQuiet_nil ?_
    rintro _ ⟨g22, rfl⟩
    go_wp2
    go_returns
    exact ⟨rfl, (by repeat' (first | (with_reducible exact Grows.refl _) | (with_reducible refine Grows.alloc ?_ _) | (with_reducible refine Grows.drew ?_) | (with_reducible refine Grows.ext ?_ _ _)))⟩
end Go.Proofs.Ytepbknpdhiaepaa
