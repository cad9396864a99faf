/-
  Walks: the reference: Home, Goto, Index, Reverse, Fit.
-/
import Derived.Test.YtepbknpdhiaepaaRows
import Derived.Test.YtepbknpdhiaepaaLt
import Derived.Test.YtepbknpdhiaepaaDefs
import Derived.Test.YtepbknpdhiaepaaW1
import Derived.Test.YtepbknpdhiaepaaW2
import Derived.WalkKit
import Derived.WalkSpells
import Derived.WalkLawsBesides
import Derived.Handy
import Derived.Lib.Hide
import Derived.Deep.Light
import Derived.Deep.LoopGhost
import Derived.BigGuardPart
import Derived.BigQuiet
import Derived.Deep.QuietTactic
import Derived.Deep.RegionHeld3
import Derived.Test.YtepbknpdhiaepaaReg
import Derived.Test.YtepbknpdhiaepaaReg3
namespace Go.Proofs.Ytepbknpdhiaepaa
open Go.RowKit


set_option maxHeartbeats 1000000 in
theorem rhome_any (r c t b : Int) (o : Bool) (w : World) : Calls Try.prog 29 #[.agg #[.int .i64 r, .int .i64 c, .int .i64 t, .int .i64 b, .bool o]] w (Ret (.agg #[.int .i64 (if o then t else 0), .int .i64 0, .bool false]) w) := by
  cases o
  all_goals
    go_enter Try.func29, Try.ntmps29
    go_wp2_with fail
    go_returns
    exact ⟨rfl, (by repeat' (first | (with_reducible exact Grows.refl _) | (with_reducible refine Grows.alloc ?_ _) | (with_reducible refine Grows.drew ?_) | (with_reducible refine Grows.ext ?_ _ _)))⟩

set_option maxHeartbeats 1000000 in
theorem rgoto_any (r c t b n m : Int) (o : Bool) (h : okF r c t b = true) (w : World) : Calls Try.prog 30 #[.agg #[.int .i64 r, .int .i64 c, .int .i64 t, .int .i64 b, .bool o], .int .i64 n, .int .i64 m] w (Ret (.agg #[.int .i64 (gRow r t b n o), .int .i64 (gCol c m), .bool false]) w) := by
  obtain ⟨f1, f2, f3, f4, f5⟩ := okF_iff.1 h
  have hc1 : 1 ≤ rcl n 1 40 ∧ rcl n 1 40 ≤ 40 := by unfold rcl; split <;> (try split) <;> omega
  have hc2 : 1 ≤ rcl m 1 c ∧ rcl m 1 c ≤ c := by unfold rcl; split <;> (try split) <;> omega
  have e1 : gCol c m = rcl m 1 c - 1 := by unfold gCol; rw [cl_rcl (by omega)]
  have e2 : gRow r t b n o = if o then rcl (t + rcl n 1 40 - 1) t b else rcl (rcl n 1 40 - 1) 0 (r - 1) := by
    cases o
    · simp only [gRow, cl, rcl, Bool.false_eq_true, if_false]
      repeat' split
      all_goals omega
    · simp only [gRow, cl, rcl, if_true]
      repeat' split
      all_goals omega
  rw [e1, e2]
  clear e1 e2
  cases o
  all_goals
    simp only [if_true, if_false, Bool.false_eq_true]
    go_enter Try.func30, Try.ntmps30
    go_wp2_with fail
    refine wp_region_grow (by kernel_rfl) (by kernel_rfl) ?_
    repeat (first | go_big_quiet_step ((first | (rename_i xg; go_at_call 46; refine (rclamp_any _ _ _ _).mono ?_; rintro _ _ ⟨rfl, rfl⟩; exact ⟨rfl, xg, rfl⟩))) | quiet_step ((first | (rename_i xg; go_at_call 46; refine (rclamp_any _ _ _ _).mono ?_; rintro _ _ ⟨rfl, rfl⟩; exact ⟨rfl, xg, rfl⟩))))
    refine wpQuiet_nil ?_
    rintro _ ⟨g48, rfl⟩
    go_wp2_with (first | (go_at_call 46; refine (rclamp_any _ _ _ _).mono ?_; rintro e w' ⟨rfl, rfl⟩))
    go_returns
    exact ⟨rfl, (by repeat' (first | (with_reducible exact Grows.refl _) | (with_reducible refine Grows.alloc ?_ _) | (with_reducible refine Grows.drew ?_) | (with_reducible refine Grows.ext ?_ _ _)))⟩
set_option maxHeartbeats 1000000 in
theorem rindex_any (r c t b x y : Int) (o wr : Bool) (h : okF r c t b = true) (h2 : atB r c x y wr = true) (w : World) : Calls Try.prog 18 #[.agg #[.int .i64 r, .int .i64 c, .int .i64 t, .int .i64 b, .bool o], .agg #[.int .i64 x, .int .i64 y, .bool wr]] w (Ret (.tuple #[.agg #[.int .i64 (lnRow r x b 1), .int .i64 y, .bool false], .bool (x == b)]) w) := by
  obtain ⟨f1, f2, f3, f4, f5⟩ := okF_iff.1 h
  obtain ⟨x0, x1, y0, y1, -⟩ := atB_iff.1 h2
  cases hx : x == b
  · rw [lnRow, if_neg (by rw [hx]; exact Bool.false_ne_true)]
    rcases (by omega : x + 1 ≤ r - 1 ∨ r - 1 < x + 1) with hm | hm
    · rw [show cl (x + 1) 0 (r - 1) = x + 1 by unfold cl; omega]
      go_enter Try.func18, Try.ntmps18
      go_wp2
      go_returns
      exact ⟨rfl, (by repeat' (first | (with_reducible exact Grows.refl _) | (with_reducible refine Grows.alloc ?_ _) | (with_reducible refine Grows.drew ?_) | (with_reducible refine Grows.ext ?_ _ _)))⟩
    · rw [show cl (x + 1) 0 (r - 1) = r - 1 by unfold cl; omega]
      go_enter Try.func18, Try.ntmps18
      go_wp2
      go_returns
      exact ⟨rfl, (by repeat' (first | (with_reducible exact Grows.refl _) | (with_reducible refine Grows.alloc ?_ _) | (with_reducible refine Grows.drew ?_) | (with_reducible refine Grows.ext ?_ _ _)))⟩
  · rw [lnRow, if_pos hx]
    go_enter Try.func18, Try.ntmps18
    go_wp2
    go_returns
    exact ⟨rfl, (by repeat' (first | (with_reducible exact Grows.refl _) | (with_reducible refine Grows.alloc ?_ _) | (with_reducible refine Grows.drew ?_) | (with_reducible refine Grows.ext ?_ _ _)))⟩
set_option maxHeartbeats 1000000 in
theorem rreverse_any (r c t b x y : Int) (o wr : Bool) (h : okF r c t b = true) (h2 : atB r c x y wr = true) (w : World) : Calls Try.prog 19 #[.agg #[.int .i64 r, .int .i64 c, .int .i64 t, .int .i64 b, .bool o], .agg #[.int .i64 x, .int .i64 y, .bool wr]] w (Ret (.tuple #[.agg #[.int .i64 (lnRow r x t (-1)), .int .i64 y, .bool false], .bool (x == t)]) w) := by
  obtain ⟨f1, f2, f3, f4, f5⟩ := okF_iff.1 h
  obtain ⟨x0, x1, y0, y1, -⟩ := atB_iff.1 h2
  cases hx : x == t
  · rw [lnRow, if_neg (by rw [hx]; exact Bool.false_ne_true)]
    rcases (by omega : 0 ≤ x - 1 ∨ x - 1 < 0) with hm | hm
    · rw [show cl (x + -1) 0 (r - 1) = x - 1 by unfold cl; omega]
      go_enter Try.func19, Try.ntmps19
      go_wp2
      go_returns
      exact ⟨rfl, (by repeat' (first | (with_reducible exact Grows.refl _) | (with_reducible refine Grows.alloc ?_ _) | (with_reducible refine Grows.drew ?_) | (with_reducible refine Grows.ext ?_ _ _)))⟩
    · rw [show cl (x + -1) 0 (r - 1) = 0 by unfold cl; omega]
      go_enter Try.func19, Try.ntmps19
      go_wp2
      go_returns
      exact ⟨rfl, (by repeat' (first | (with_reducible exact Grows.refl _) | (with_reducible refine Grows.alloc ?_ _) | (with_reducible refine Grows.drew ?_) | (with_reducible refine Grows.ext ?_ _ _)))⟩
  · rw [lnRow, if_pos hx]
    go_enter Try.func19, Try.ntmps19
    go_wp2
    go_returns
    exact ⟨rfl, (by repeat' (first | (with_reducible exact Grows.refl _) | (with_reducible refine Grows.alloc ?_ _) | (with_reducible refine Grows.drew ?_) | (with_reducible refine Grows.ext ?_ _ _)))⟩
end Go.Proofs.Ytepbknpdhiaepaa
