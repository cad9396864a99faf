/-
  Walks: the reference Shown at valid sets.
-/
import Derived.Test.YtegpdjiacehkfaaDoorRows
import Derived.Test.YtegpdjiacehkfaaDoorDefs
import Derived.Test.YtegpdjiacehkfaaDoorW1
import Derived.Test.YtegpdjiacehkfaaDoorW2
import Derived.WalkKit
import Derived.WalkSpells
import Derived.WalkLawsBesides
import Derived.Handy
import Derived.Lib.Hide
import Derived.Deep.Light
import Derived.Deep.LoopGhost
import Derived.BigGuardPart
import Derived.BigQuiet
import Derived.Deep.QuietTactic
namespace Go.Proofs.YtegpdjiacehkfaaDoor
open Go.RowKit


set_option maxRecDepth 100000 in
set_option maxHeartbeats 4000000 in
theorem rshown_yes (a b c d u o cp : Int) (h : rightB a b c d u o = true) (w : World) :
    Calls Tryd.prog 13 #[.agg #[.int .i64 a, .int .i64 b, .int .i64 c, .int .i64 d, .int .i64 u, .int .i64 o], .int .i64 cp] w (Ret (.tuple #[.int .i64 (signOf a b c d u o cp), .agg #[.int .i64 a, .int .i64 b, .int .i64 c, .int .i64 d, .int .i64 u, .int .i64 0], .int .i64 0]) w) := by
  obtain ⟨-, -, -, -, hu, ho⟩ := rightB_iff.1 h
  cases hl : lineB a b c d u o
  all_goals
    have hs : signOf a b c d u o cp = if lineB a b c d u o then lineOf cp else cp := rfl
    rw [hl] at hs
    simp only [Bool.false_eq_true, if_true, if_false] at hs
    have Hs := Lib.hid hs
    clear hs
    rcases hu with rfl | rfl <;> rcases ho with rfl | rfl | rfl
  all_goals
    simp only [lineB, gAt] at hl
    simp at hl
    try subst hl
  all_goals
    go_enter Tryd.func13, Tryd.ntmps13
    go_wp2_with (first | (go_at_call 25; refine (right_any _ _ _ _ _ _ _).mono ?_; rintro e w' ⟨rfl, h1, d1, rfl⟩) | (go_at_call 21; refine (line_any _ _).mono ?_; rintro e w1 ⟨rfl, h1, d1, rfl⟩))
  all_goals
    go_region
    go_wp2
    go_returns
    refine ⟨?_, (by repeat' (first | (with_reducible exact Grows.refl _) | (with_reducible refine Grows.alloc ?_ _) | (with_reducible refine Grows.drew ?_) | (with_reducible refine Grows.ext ?_ _ _)))⟩
    rw [Hs.out]
end Go.Proofs.YtegpdjiacehkfaaDoor
