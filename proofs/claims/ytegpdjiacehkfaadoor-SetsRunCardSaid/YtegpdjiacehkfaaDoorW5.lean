/-
  Walks: Shown of the program.
-/
import Derived.Test.YtegpdjiacehkfaaDoorRows
import Derived.Test.YtegpdjiacehkfaaDoorDefs
import Derived.Test.YtegpdjiacehkfaaDoorW1
import Derived.Test.YtegpdjiacehkfaaDoorW2
import Derived.WalkKit
import Derived.WalkSpells
import Derived.WalkLawsBesides
import Derived.Handy
import Derived.Lib.Hide
import Derived.Deep.Light
import Derived.Deep.LoopGhost
import Derived.BigGuardPart
import Derived.BigQuiet
import Derived.Deep.QuietTactic
namespace Go.Proofs.YtegpdjiacehkfaaDoor
open Go.RowKit


theorem in64_01 {u : Int} (h : u = 0 ∨ u = 1) : In64 u := by unfold In64; omega
set_option maxHeartbeats 400000 in
theorem shown_no (a b c d u o cp : Int) (hi : In64 u) (h : rightB a b c d u o = false) (w : World) :
    Calls Tryd.prog 12 #[.agg #[.int .i64 a, .int .i64 b, .int .i64 c, .int .i64 d, .int .i64 u, .int .i64 o], .int .i64 cp] w (Ret (.tuple #[.int .i64 0, .agg #[.int .i64 0, .int .i64 0, .int .i64 0, .int .i64 0, .int .i64 0, .int .i64 0], .int .i64 250]) w) := by
  go_enter Tryd.func12, Tryd.ntmps12
  go_wp2_with (go_at_call 10; refine (check_any _ _ _ _ _ _ hi _).mono ?_; rintro e w' ⟨rfl, h1, d1, rfl⟩)
  exact bodyPost_ret (v := .tuple #[.int .i64 0, .agg #[.int .i64 0, .int .i64 0, .int .i64 0, .int .i64 0, .int .i64 0, .int .i64 0], .int .i64 250]) (by simp [results, Tryd.results12, go_sem]) rfl ⟨rfl, (by repeat' (first | (with_reducible exact Grows.refl _) | (with_reducible refine Grows.alloc ?_ _) | (with_reducible refine Grows.drew ?_) | (with_reducible refine Grows.ext ?_ _ _)))⟩

set_option maxRecDepth 100000 in
set_option maxHeartbeats 4000000 in
theorem shown_plain (a b c d u o cp : Int) (h : rightB a b c d u o = true) (hl : lineB a b c d u o = false) (w : World) :
    Calls Tryd.prog 12 #[.agg #[.int .i64 a, .int .i64 b, .int .i64 c, .int .i64 d, .int .i64 u, .int .i64 o], .int .i64 cp] w (Ret (.tuple #[.int .i64 cp, .agg #[.int .i64 a, .int .i64 b, .int .i64 c, .int .i64 d, .int .i64 u, .int .i64 0], .int .i64 0]) w) := by
  obtain ⟨-, -, -, -, hu, ho⟩ := rightB_iff.1 h
  have hi := in64_01 hu
  rcases hu with rfl | rfl <;> rcases ho with rfl | rfl | rfl
  all_goals
    simp only [lineB, gAt] at hl
    simp at hl
    go_enter Tryd.func12, Tryd.ntmps12
    go_wp2_with (go_at_call 10; refine (check_any _ _ _ _ _ _ hi _).mono ?_; rintro e w' ⟨rfl, h1, d1, rfl⟩)
    go_region
    go_wp2
    go_returns
    exact ⟨rfl, (by repeat' (first | (with_reducible exact Grows.refl _) | (with_reducible refine Grows.alloc ?_ _) | (with_reducible refine Grows.drew ?_) | (with_reducible refine Grows.ext ?_ _ _)))⟩

set_option maxRecDepth 100000 in
set_option maxHeartbeats 4000000 in
theorem shown_out (a b c d u o cp : Int) (h : rightB a b c d u o = true) (hl : lineB a b c d u o = true) (hr : ¬ (95 ≤ cp ∧ cp < 127)) (w : World) :
    Calls Tryd.prog 12 #[.agg #[.int .i64 a, .int .i64 b, .int .i64 c, .int .i64 d, .int .i64 u, .int .i64 o], .int .i64 cp] w (Ret (.tuple #[.int .i64 cp, .agg #[.int .i64 a, .int .i64 b, .int .i64 c, .int .i64 d, .int .i64 u, .int .i64 0], .int .i64 0]) w) := by
  obtain ⟨-, -, -, -, hu, ho⟩ := rightB_iff.1 h
  have hi := in64_01 hu
  have hr' : decide (95 ≤ cp) = false ∨ (decide (95 ≤ cp) = true ∧ decide (cp < 127) = false) := by simp; omega
  clear hr
  rcases hu with rfl | rfl <;> rcases ho with rfl | rfl | rfl
  all_goals
    simp only [lineB, gAt] at hl
    simp at hl
    subst hl
    rcases hr' with hr1 | ⟨hr1, hr2⟩
  all_goals
    go_enter Tryd.func12, Tryd.ntmps12
    go_wp2_with (go_at_call 10; refine (check_any _ _ _ _ _ _ hi _).mono ?_; rintro e w' ⟨rfl, h1, d1, rfl⟩)
    go_region
    go_wp2
    go_returns
    exact ⟨rfl, (by repeat' (first | (with_reducible exact Grows.refl _) | (with_reducible refine Grows.alloc ?_ _) | (with_reducible refine Grows.drew ?_) | (with_reducible refine Grows.ext ?_ _ _)))⟩

set_option maxRecDepth 100000 in
set_option maxHeartbeats 4000000 in
theorem shown_line (a b c d u o : Int) (k : Nat) (h : rightB a b c d u o = true) (hl : lineB a b c d u o = true) (hk : k < 32) (w : World) (hg : SG w) :
    Calls Tryd.prog 12 #[.agg #[.int .i64 a, .int .i64 b, .int .i64 c, .int .i64 d, .int .i64 u, .int .i64 o], .int .i64 ((k : Int) + 95)] w (Ret (.tuple #[.int .i64 (signAt k), .agg #[.int .i64 a, .int .i64 b, .int .i64 c, .int .i64 d, .int .i64 u, .int .i64 0], .int .i64 0]) w) := by
  obtain ⟨-, -, -, -, hu, ho⟩ := rightB_iff.1 h
  have hi := in64_01 hu
  have hc := hg.cell k hk
  have h0 := hg.pos
  clear hg
  have hr1 : decide (95 ≤ (k : Int) + 95) = true := by simp; omega
  have hr2 : decide ((k : Int) + 95 < 127) = true := by simp; omega
  rcases hu with rfl | rfl <;> rcases ho with rfl | rfl | rfl
  all_goals
    simp only [lineB, gAt] at hl
    simp at hl
    subst hl
    go_enter Tryd.func12, Tryd.ntmps12
    go_wp2_with (go_at_call 10; refine (check_any _ _ _ _ _ _ hi _).mono ?_; rintro e w' ⟨rfl, h1, d1, rfl⟩)
    go_region
    go_wp2
    go_returns
    exact ⟨rfl, (by repeat' (first | (with_reducible exact Grows.refl _) | (with_reducible refine Grows.alloc ?_ _) | (with_reducible refine Grows.drew ?_) | (with_reducible refine Grows.ext ?_ _ _)))⟩

/-- Shown at valid sets. -/
theorem shown_yes (a b c d u o cp : Int) (h : rightB a b c d u o = true) (w : World) (hg : SG w) :
    Calls Tryd.prog 12 #[.agg #[.int .i64 a, .int .i64 b, .int .i64 c, .int .i64 d, .int .i64 u, .int .i64 o], .int .i64 cp] w (Ret (.tuple #[.int .i64 (signOf a b c d u o cp), .agg #[.int .i64 a, .int .i64 b, .int .i64 c, .int .i64 d, .int .i64 u, .int .i64 0], .int .i64 0]) w) := by
  unfold signOf
  cases hl : lineB a b c d u o
  · exact shown_plain a b c d u o cp h hl w
  · by_cases hr : 95 ≤ cp ∧ cp < 127
    · obtain ⟨k, rfl⟩ : ∃ k : Nat, cp = (k : Int) + 95 := ⟨(cp - 95).toNat, by omega⟩
      have hk : k < 32 := by omega
      have := shown_line a b c d u o k h hl hk w hg
      rw [if_pos rfl, lineOf_in hk]
      exact this
    · have := shown_out a b c d u o cp h hl hr w
      rw [if_pos rfl, lineOf_out hr]
      exact this
end Go.Proofs.YtegpdjiacehkfaaDoor
