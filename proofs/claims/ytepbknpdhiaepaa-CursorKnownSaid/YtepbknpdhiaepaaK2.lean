/-
  Walks: Check of a style.
-/
import Derived.Test.YtepbknpdhiaepaaRows
import Derived.Test.YtepbknpdhiaepaaLt
import Derived.Test.YtepbknpdhiaepaaDefs
import Derived.Test.YtepbknpdhiaepaaBits
import Derived.Test.YtepbknpdhiaepaaK1
import Derived.WalkKit
import Derived.WalkSpells
import Derived.WalkLawsBesides
import Derived.Handy
import Derived.Laws.EntriesVeiled
import Derived.Lib.Hide
import Derived.Deep.Light
import Derived.Deep.LoopGhost
import Derived.BigGuardPart
import Derived.BigQuiet
import Derived.Deep.QuietTactic
import Derived.Deep.RegionHeld3
import Derived.Test.YtepbknpdhiaepaaReg
namespace Go.Proofs.Ytepbknpdhiaepaa
open Go.RowKit


/-- A style is valid. -/
def auOk (a u : Int) : Bool := decide (0 ≤ a ∧ a ≤ 255 ∧ 0 ≤ u ∧ u ≤ 5)
def stErr (a u fk fn bk bn lk ln : Int) : Int := if auOk a u then clErr (clOk fk fn && clOk bk bn && clOk lk ln) else 140
theorem auOk_t {a u : Int} (h : 0 ≤ a ∧ a ≤ 255 ∧ 0 ≤ u ∧ u ≤ 5) : auOk a u = true := decide_eq_true h
theorem auOk_f {a u : Int} (h : ¬ (0 ≤ a ∧ a ≤ 255 ∧ 0 ≤ u ∧ u ≤ 5)) : auOk a u = false := decide_eq_false h
theorem idx108_0 (x0 x1 x2 x3 x4 x5 : Value) (w : World) : (Instr.index 108 (.agg #[x0, x1, x2, x3, x4, x5]) (.int .i64 0)).run Try.prog w = .ok (.agg #[x0, x1]) w := by kernel_rfl
theorem idx108_1 (x0 x1 x2 x3 x4 x5 : Value) (w : World) : (Instr.index 108 (.agg #[x0, x1, x2, x3, x4, x5]) (.int .i64 1)).run Try.prog w = .ok (.agg #[x2, x3]) w := by kernel_rfl
theorem idx108_2 (x0 x1 x2 x3 x4 x5 : Value) (w : World) : (Instr.index 108 (.agg #[x0, x1, x2, x3, x4, x5]) (.int .i64 2)).run Try.prog w = .ok (.agg #[x4, x5]) w := by kernel_rfl

set_option maxHeartbeats 8000000 in
theorem schk_any (a u fk fn bk bn lk ln : Int) (hi : In64 a) (w : World) : Calls Try.prog 62 #[.agg #[.int .i64 a, .int .i64 u, .int .i64 fk, .int .i64 fn, .int .i64 bk, .int .i64 bn, .int .i64 lk, .int .i64 ln]] w (Ret (.int .i64 (stErr a u fk fn bk bn lk ln)) w) := by
  unfold stErr
  have hc : (¬ (0 ≤ a ∧ a ≤ 255)) ∨ ((0 ≤ a ∧ a ≤ 255) ∧ u < 0) ∨ ((0 ≤ a ∧ a ≤ 255) ∧ 0 ≤ u ∧ 5 < u) ∨ ((0 ≤ a ∧ a ≤ 255) ∧ 0 ≤ u ∧ u ≤ 5) := by omega
  have hm := mask_ne hi
  rcases hc with hn | hn | hn | hn
  · rw [auOk_f (by omega)]
    simp only [Bool.false_eq_true, if_false]
    have e1 : (bits .andNot .i64 a 255 != 0) = true := by rw [hm]; simp; omega
    clear hm hn hi
    go_enter Try.func62, Try.ntmps62
    go_wp2
    go_returns
    exact ⟨rfl, (by repeat' (first | (with_reducible exact Grows.refl _) | (with_reducible refine Grows.alloc ?_ _) | (with_reducible refine Grows.drew ?_) | (with_reducible refine Grows.ext ?_ _ _)))⟩
  · rw [auOk_f (by omega)]
    simp only [Bool.false_eq_true, if_false]
    have e1 : (bits .andNot .i64 a 255 != 0) = false := by rw [hm]; simp; omega
    have e2 : decide (u < 0) = true := by simp; omega
    clear hm hn hi
    go_enter Try.func62, Try.ntmps62
    go_wp2
    go_returns
    exact ⟨rfl, (by repeat' (first | (with_reducible exact Grows.refl _) | (with_reducible refine Grows.alloc ?_ _) | (with_reducible refine Grows.drew ?_) | (with_reducible refine Grows.ext ?_ _ _)))⟩
  · rw [auOk_f (by omega)]
    simp only [Bool.false_eq_true, if_false]
    have e1 : (bits .andNot .i64 a 255 != 0) = false := by rw [hm]; simp; omega
    have e2 : decide (u < 0) = false := by simp; omega
    have e3 : decide (5 < u) = true := by simp; omega
    clear hm hn hi
    go_enter Try.func62, Try.ntmps62
    go_wp2
    go_returns
    exact ⟨rfl, (by repeat' (first | (with_reducible exact Grows.refl _) | (with_reducible refine Grows.alloc ?_ _) | (with_reducible refine Grows.drew ?_) | (with_reducible refine Grows.ext ?_ _ _)))⟩
  · rw [auOk_t (by omega)]
    simp only [if_true]
    have e1 : (bits .andNot .i64 a 255 != 0) = false := by rw [hm]; simp; omega
    have e2 : decide (u < 0) = false := by simp; omega
    have e3 : decide (5 < u) = false := by simp; omega
    clear hm hn hi
    have Hf := fun W => color_any fk fn W
    have Hb := fun W => color_any bk bn W
    have Hl := fun W => color_any lk ln W
    cases c1 : clOk fk fn
    all_goals cases c2 : clOk bk bn
    all_goals cases c3 : clOk lk ln
    all_goals
      simp only [c1, c2, c3, Bool.and_true, Bool.and_false, clErr_t, clErr_f] at Hf Hb Hl ⊢
      have Kf := Lib.hid Hf
      have Kb := Lib.hid Hb
      have Kl := Lib.hid Hl
      clear Hf Hb Hl c1 c2 c3
      go_enter Try.func62, Try.ntmps62
      go_wp2_with fail
      have ix0 := fun W => idx108_0 (.int .i64 fk) (.int .i64 fn) (.int .i64 bk) (.int .i64 bn) (.int .i64 lk) (.int .i64 ln) W
      have ix1 := fun W => idx108_1 (.int .i64 fk) (.int .i64 fn) (.int .i64 bk) (.int .i64 bn) (.int .i64 lk) (.int .i64 ln) W
      have ix2 := fun W => idx108_2 (.int .i64 fk) (.int .i64 fn) (.int .i64 bk) (.int .i64 bn) (.int .i64 lk) (.int .i64 ln) W
      refine wp_loop_rounds 4 ?_
      repeat (rw [rounds_succ]; go_wp2_with (first | (go_at_call 66; (with_reducible refine (Kf.out _).mono ?_); rintro e w' ⟨rfl, h3, d3, rfl⟩) | (go_at_call 66; (with_reducible refine (Kb.out _).mono ?_); rintro e w' ⟨rfl, h4, d4, rfl⟩) | (go_at_call 66; (with_reducible refine (Kl.out _).mono ?_); rintro e w' ⟨rfl, h5, d5, rfl⟩)))
      go_returns
      exact ⟨rfl, (by repeat' (first | (with_reducible exact Grows.refl _) | (with_reducible refine Grows.alloc ?_ _) | (with_reducible refine Grows.drew ?_) | (with_reducible refine Grows.ext ?_ _ _)))⟩

set_option maxHeartbeats 8000000 in
theorem rschk_any (a u fk fn bk bn lk ln : Int) (hi : In64 a) (w : World) : Calls Try.prog 65 #[.agg #[.int .i64 a, .int .i64 u, .int .i64 fk, .int .i64 fn, .int .i64 bk, .int .i64 bn, .int .i64 lk, .int .i64 ln]] w (Ret (.int .i64 (stErr a u fk fn bk bn lk ln)) w) := by
  unfold stErr
  have hc : (a < 0) ∨ (0 ≤ a ∧ 255 < a) ∨ ((0 ≤ a ∧ a ≤ 255) ∧ u < 0) ∨ ((0 ≤ a ∧ a ≤ 255) ∧ 0 ≤ u ∧ 5 < u) ∨ ((0 ≤ a ∧ a ≤ 255) ∧ 0 ≤ u ∧ u ≤ 5) := by omega
  have hm := mask_ne hi
  rcases hc with hn | hn | hn | hn | hn
  · rw [auOk_f (by omega)]
    simp only [Bool.false_eq_true, if_false]
    have e1 : decide (a < 0) = true := by simp; omega
    clear hm hn hi
    go_enter Try.func65, Try.ntmps65
    go_wp2
    go_returns
    exact ⟨rfl, (by repeat' (first | (with_reducible exact Grows.refl _) | (with_reducible refine Grows.alloc ?_ _) | (with_reducible refine Grows.drew ?_) | (with_reducible refine Grows.ext ?_ _ _)))⟩
  · rw [auOk_f (by omega)]
    simp only [Bool.false_eq_true, if_false]
    have e1 : decide (a < 0) = false := by simp; omega
    have e0 : decide (255 < a) = true := by simp; omega
    clear hm hn hi
    go_enter Try.func65, Try.ntmps65
    go_wp2
    go_returns
    exact ⟨rfl, (by repeat' (first | (with_reducible exact Grows.refl _) | (with_reducible refine Grows.alloc ?_ _) | (with_reducible refine Grows.drew ?_) | (with_reducible refine Grows.ext ?_ _ _)))⟩
  · rw [auOk_f (by omega)]
    simp only [Bool.false_eq_true, if_false]
    have e1 : decide (a < 0) = false := by simp; omega
    have e0 : decide (255 < a) = false := by simp; omega
    have e2 : decide (u < 0) = true := by simp; omega
    clear hm hn hi
    go_enter Try.func65, Try.ntmps65
    go_wp2
    go_returns
    exact ⟨rfl, (by repeat' (first | (with_reducible exact Grows.refl _) | (with_reducible refine Grows.alloc ?_ _) | (with_reducible refine Grows.drew ?_) | (with_reducible refine Grows.ext ?_ _ _)))⟩
  · rw [auOk_f (by omega)]
    simp only [Bool.false_eq_true, if_false]
    have e1 : decide (a < 0) = false := by simp; omega
    have e0 : decide (255 < a) = false := by simp; omega
    have e2 : decide (u < 0) = false := by simp; omega
    have e3 : decide (5 < u) = true := by simp; omega
    clear hm hn hi
    go_enter Try.func65, Try.ntmps65
    go_wp2
    go_returns
    exact ⟨rfl, (by repeat' (first | (with_reducible exact Grows.refl _) | (with_reducible refine Grows.alloc ?_ _) | (with_reducible refine Grows.drew ?_) | (with_reducible refine Grows.ext ?_ _ _)))⟩
  · rw [auOk_t (by omega)]
    simp only [if_true]
    have e1 : decide (a < 0) = false := by simp; omega
    have e0 : decide (255 < a) = false := by simp; omega
    have e2 : decide (u < 0) = false := by simp; omega
    have e3 : decide (5 < u) = false := by simp; omega
    clear hm hn hi
    have Hf := fun W => rcolor_any fk fn W
    have Hb := fun W => rcolor_any bk bn W
    have Hl := fun W => rcolor_any lk ln W
    cases c1 : clOk fk fn
    all_goals cases c2 : clOk bk bn
    all_goals cases c3 : clOk lk ln
    all_goals
      simp only [c1, c2, c3, Bool.and_true, Bool.and_false, clErr_t, clErr_f] at Hf Hb Hl ⊢
      have Kf := Lib.hid Hf
      have Kb := Lib.hid Hb
      have Kl := Lib.hid Hl
      clear Hf Hb Hl c1 c2 c3
      go_enter Try.func65, Try.ntmps65
      go_wp2_with fail
      have ix0 := fun W => idx108_0 (.int .i64 fk) (.int .i64 fn) (.int .i64 bk) (.int .i64 bn) (.int .i64 lk) (.int .i64 ln) W
      have ix1 := fun W => idx108_1 (.int .i64 fk) (.int .i64 fn) (.int .i64 bk) (.int .i64 bn) (.int .i64 lk) (.int .i64 ln) W
      have ix2 := fun W => idx108_2 (.int .i64 fk) (.int .i64 fn) (.int .i64 bk) (.int .i64 bn) (.int .i64 lk) (.int .i64 ln) W
      refine wp_loop_rounds 4 ?_
      repeat (rw [rounds_succ]; go_wp2_with (first | (go_at_call 67; (with_reducible refine (Kf.out _).mono ?_); rintro e w' ⟨rfl, h3, d3, rfl⟩) | (go_at_call 67; (with_reducible refine (Kb.out _).mono ?_); rintro e w' ⟨rfl, h4, d4, rfl⟩) | (go_at_call 67; (with_reducible refine (Kl.out _).mono ?_); rintro e w' ⟨rfl, h5, d5, rfl⟩)))
      go_returns
      exact ⟨rfl, (by repeat' (first | (with_reducible exact Grows.refl _) | (with_reducible refine Grows.alloc ?_ _) | (with_reducible refine Grows.drew ?_) | (with_reducible refine Grows.ext ?_ _ _)))⟩
end Go.Proofs.Ytepbknpdhiaepaa
