/-
  Walks: the reference Move; own and ref.
-/
import Derived.Test.YtepbknpdhiaepaaRows
import Derived.Test.YtepbknpdhiaepaaLt
import Derived.Test.YtepbknpdhiaepaaDefs
import Derived.Test.YtepbknpdhiaepaaW1
import Derived.Test.YtepbknpdhiaepaaW2
import Derived.WalkKit
import Derived.WalkSpells
import Derived.WalkLawsBesides
import Derived.Handy
import Derived.Lib.Hide
import Derived.Deep.Light
import Derived.Deep.LoopGhost
import Derived.BigGuardPart
import Derived.BigQuiet
import Derived.Deep.QuietTactic
import Derived.Deep.RegionHeld3
import Derived.Test.YtepbknpdhiaepaaReg
import Derived.Test.YtepbknpdhiaepaaReg3
namespace Go.Proofs.Ytepbknpdhiaepaa
open Go.RowKit


theorem ret_cur {a b a' b' : Int} {x : Bool} (ha : a = a') (hb : b = b') : Ending.returned (.agg #[.int .i64 a, .int .i64 b, .bool x]) = .returned (.agg #[.int .i64 a', .int .i64 b', .bool x]) := by rw [ha, hb]
set_option maxHeartbeats 400000 in
theorem own_any (r c t b : Int) (o : Bool) (w : World) : Calls Try.prog 11 #[.agg #[.int .i64 r, .int .i64 c, .int .i64 t, .int .i64 b, .bool o]] w (Ret (.agg #[.int .i64 r, .int .i64 c, .int .i64 t, .int .i64 b, .bool o]) w) := by
  go_enter Try.func11, Try.ntmps11
  go_wp2
  go_returns
  exact ⟨rfl, (by repeat' (first | (with_reducible exact Grows.refl _) | (with_reducible refine Grows.alloc ?_ _) | (with_reducible refine Grows.drew ?_) | (with_reducible refine Grows.ext ?_ _ _)))⟩
set_option maxHeartbeats 400000 in
theorem ref_any (r c t b : Int) (o : Bool) (w : World) : Calls Try.prog 13 #[.agg #[.int .i64 r, .int .i64 c, .int .i64 t, .int .i64 b, .bool o]] w (Ret (.agg #[.int .i64 r, .int .i64 c, .int .i64 t, .int .i64 b, .bool o]) w) := by
  go_enter Try.func13, Try.ntmps13
  go_wp2
  go_returns
  exact ⟨rfl, (by repeat' (first | (with_reducible exact Grows.refl _) | (with_reducible refine Grows.alloc ?_ _) | (with_reducible refine Grows.drew ?_) | (with_reducible refine Grows.ext ?_ _ _)))⟩

set_option maxHeartbeats 1000000 in
theorem rmove_way0 (r c t b x y n : Int) (o wr : Bool) (h : okF r c t b = true) (h2 : atB r c x y wr = true) (w : World) : Calls Try.prog 16 #[.agg #[.int .i64 r, .int .i64 c, .int .i64 t, .int .i64 b, .bool o], .agg #[.int .i64 x, .int .i64 y, .bool wr], .int .i64 0, .int .i64 n] w (Ret (.agg #[.int .i64 (rMoveRow r t b x 0 n), .int .i64 (rMoveCol c y 0 n), .bool false]) w) := by
  obtain ⟨f1, f2, f3, f4, f5⟩ := okF_iff.1 h
  obtain ⟨x0, x1, y0, y1, -⟩ := atB_iff.1 h2
  have hN : 0 ≤ rcl n 0 200 ∧ rcl n 0 200 ≤ 200 := by unfold rcl; split <;> (try split) <;> omega
  have e1 : rMoveRow r t b x 0 n = upRow t x (rcl n 0 200) := rfl
  have e2 : rMoveCol c y 0 n = y := rfl
  rw [e1, e2]
  clear e1 e2
  cases hd : decide (t ≤ x)
  all_goals
    go_enter Try.func16, Try.ntmps16
    go_wp2_with (first | (go_at_call 46; refine (rclamp_any _ _ _ _).mono ?_; rintro e w' ⟨rfl, rfl⟩))
  all_goals
    go_returns
    refine ⟨?_, (by repeat' (first | (with_reducible exact Grows.refl _) | (with_reducible refine Grows.alloc ?_ _) | (with_reducible refine Grows.drew ?_) | (with_reducible refine Grows.ext ?_ _ _)))⟩
    refine ret_cur ?_ ?_
    all_goals
      go_light
      first
        | rfl
        | omega
        | (simp only [upRow, hd, if_true, if_false, Bool.false_eq_true]; omega)

set_option maxHeartbeats 1000000 in
theorem rmove_way1 (r c t b x y n : Int) (o wr : Bool) (h : okF r c t b = true) (h2 : atB r c x y wr = true) (w : World) : Calls Try.prog 16 #[.agg #[.int .i64 r, .int .i64 c, .int .i64 t, .int .i64 b, .bool o], .agg #[.int .i64 x, .int .i64 y, .bool wr], .int .i64 1, .int .i64 n] w (Ret (.agg #[.int .i64 (rMoveRow r t b x 1 n), .int .i64 (rMoveCol c y 1 n), .bool false]) w) := by
  obtain ⟨f1, f2, f3, f4, f5⟩ := okF_iff.1 h
  obtain ⟨x0, x1, y0, y1, -⟩ := atB_iff.1 h2
  have hN : 0 ≤ rcl n 0 200 ∧ rcl n 0 200 ≤ 200 := by unfold rcl; split <;> (try split) <;> omega
  have e1 : rMoveRow r t b x 1 n = downRow r b x (rcl n 0 200) := rfl
  have e2 : rMoveCol c y 1 n = y := rfl
  rw [e1, e2]
  clear e1 e2
  cases hd : decide (x ≤ b)
  all_goals
    go_enter Try.func16, Try.ntmps16
    go_wp2_with (first | (go_at_call 46; refine (rclamp_any _ _ _ _).mono ?_; rintro e w' ⟨rfl, rfl⟩))
  all_goals
    go_returns
    refine ⟨?_, (by repeat' (first | (with_reducible exact Grows.refl _) | (with_reducible refine Grows.alloc ?_ _) | (with_reducible refine Grows.drew ?_) | (with_reducible refine Grows.ext ?_ _ _)))⟩
    refine ret_cur ?_ ?_
    all_goals
      go_light
      first
        | rfl
        | omega
        | (simp only [downRow, hd, if_true, if_false, Bool.false_eq_true]; omega)

set_option maxHeartbeats 1000000 in
theorem rmove_way2 (r c t b x y n : Int) (o wr : Bool) (h : okF r c t b = true) (h2 : atB r c x y wr = true) (w : World) : Calls Try.prog 16 #[.agg #[.int .i64 r, .int .i64 c, .int .i64 t, .int .i64 b, .bool o], .agg #[.int .i64 x, .int .i64 y, .bool wr], .int .i64 2, .int .i64 n] w (Ret (.agg #[.int .i64 (rMoveRow r t b x 2 n), .int .i64 (rMoveCol c y 2 n), .bool false]) w) := by
  obtain ⟨f1, f2, f3, f4, f5⟩ := okF_iff.1 h
  obtain ⟨x0, x1, y0, y1, -⟩ := atB_iff.1 h2
  have hN : 0 ≤ rcl n 0 200 ∧ rcl n 0 200 ≤ 200 := by unfold rcl; split <;> (try split) <;> omega
  have e1 : rMoveRow r t b x 2 n = x := rfl
  have e2 : rMoveCol c y 2 n = min (c - 1) (y + rcl n 0 200) := rfl
  rw [e1, e2]
  clear e1 e2
  all_goals
    go_enter Try.func16, Try.ntmps16
    go_wp2_with (first | (go_at_call 46; refine (rclamp_any _ _ _ _).mono ?_; rintro e w' ⟨rfl, rfl⟩))
  all_goals
    go_returns
    refine ⟨?_, (by repeat' (first | (with_reducible exact Grows.refl _) | (with_reducible refine Grows.alloc ?_ _) | (with_reducible refine Grows.drew ?_) | (with_reducible refine Grows.ext ?_ _ _)))⟩
    refine ret_cur ?_ ?_
    all_goals
      go_light
      first
        | rfl
        | omega
        | (simp only [upRow, downRow, hd, if_true, if_false, Bool.false_eq_true]; omega)

set_option maxHeartbeats 1000000 in
theorem rmove_way3 (r c t b x y n : Int) (o wr : Bool) (h : okF r c t b = true) (h2 : atB r c x y wr = true) (w : World) : Calls Try.prog 16 #[.agg #[.int .i64 r, .int .i64 c, .int .i64 t, .int .i64 b, .bool o], .agg #[.int .i64 x, .int .i64 y, .bool wr], .int .i64 3, .int .i64 n] w (Ret (.agg #[.int .i64 (rMoveRow r t b x 3 n), .int .i64 (rMoveCol c y 3 n), .bool false]) w) := by
  obtain ⟨f1, f2, f3, f4, f5⟩ := okF_iff.1 h
  obtain ⟨x0, x1, y0, y1, -⟩ := atB_iff.1 h2
  have hN : 0 ≤ rcl n 0 200 ∧ rcl n 0 200 ≤ 200 := by unfold rcl; split <;> (try split) <;> omega
  have e1 : rMoveRow r t b x 3 n = x := rfl
  have e2 : rMoveCol c y 3 n = max 0 (y - rcl n 0 200) := rfl
  rw [e1, e2]
  clear e1 e2
  all_goals
    go_enter Try.func16, Try.ntmps16
    go_wp2_with (first | (go_at_call 46; refine (rclamp_any _ _ _ _).mono ?_; rintro e w' ⟨rfl, rfl⟩))
  all_goals
    go_returns
    refine ⟨?_, (by repeat' (first | (with_reducible exact Grows.refl _) | (with_reducible refine Grows.alloc ?_ _) | (with_reducible refine Grows.drew ?_) | (with_reducible refine Grows.ext ?_ _ _)))⟩
    refine ret_cur ?_ ?_
    all_goals
      go_light
      first
        | rfl
        | omega
        | (simp only [upRow, downRow, hd, if_true, if_false, Bool.false_eq_true]; omega)

theorem rmove_any (r c t b x y way n : Int) (o wr : Bool) (h : okF r c t b = true) (h2 : atB r c x y wr = true) (hm : mOk way n = true) (w : World) : Calls Try.prog 16 #[.agg #[.int .i64 r, .int .i64 c, .int .i64 t, .int .i64 b, .bool o], .agg #[.int .i64 x, .int .i64 y, .bool wr], .int .i64 way, .int .i64 n] w (Ret (.agg #[.int .i64 (mvRow r c t b x way n), .int .i64 (mvCol r c y way n), .bool false]) w) := by
  rw [← rMoveRow_eq h h2 hm, ← rMoveCol_eq h h2 hm]
  obtain ⟨m1, m2, m3⟩ := mOk_iff.1 hm
  have hw : way = 0 ∨ way = 1 ∨ way = 2 ∨ way = 3 := by omega
  rcases hw with rfl | rfl | rfl | rfl
  · exact rmove_way0 r c t b x y n o wr h h2 w
  · exact rmove_way1 r c t b x y n o wr h h2 w
  · exact rmove_way2 r c t b x y n o wr h h2 w
  · exact rmove_way3 r c t b x y n o wr h h2 w
end Go.Proofs.Ytepbknpdhiaepaa
