/-
  Walk: Move.
-/
import Derived.Test.YtepbknpdhiaepaaRows
import Derived.Test.YtepbknpdhiaepaaLt
import Derived.Test.YtepbknpdhiaepaaDefs
import Derived.Test.YtepbknpdhiaepaaW1
import Derived.Test.YtepbknpdhiaepaaW2
import Derived.Test.YtepbknpdhiaepaaW3
import Derived.Test.YtepbknpdhiaepaaW5
import Derived.Test.YtepbknpdhiaepaaW6
import Derived.Test.YtepbknpdhiaepaaW7
import Derived.Test.YtepbknpdhiaepaaW8
import Derived.Test.YtepbknpdhiaepaaW9
import Derived.Test.YtepbknpdhiaepaaW10
import Derived.WalkKit
import Derived.WalkSpells
import Derived.WalkLawsBesides
import Derived.Handy
import Derived.Laws.EntriesVeiled
import Derived.Lib.Hide
import Derived.Deep.Light
import Derived.Deep.LoopGhost
import Derived.BigGuardPart
import Derived.BigQuiet
import Derived.Deep.QuietTactic
import Derived.Deep.RegionHeld3
import Derived.Test.YtepbknpdhiaepaaReg
import Derived.Test.YtepbknpdhiaepaaReg3
namespace Go.Proofs.Ytepbknpdhiaepaa
open Go.RowKit


set_option maxHeartbeats 1000000 in
theorem move_bad (r c t b x y way n : Int) (o wr : Bool) (h : okF r c t b = true) (h2 : atB r c x y wr = true) (hm : way < 0 ∨ (0 ≤ way ∧ 3 < way) ∨ (0 ≤ way ∧ way ≤ 3 ∧ n < 0)) (w : World) : Calls Try.prog 17 #[.agg #[.int .i64 r, .int .i64 c, .int .i64 t, .int .i64 b, .bool o], .agg #[.int .i64 x, .int .i64 y, .bool wr], .int .i64 way, .int .i64 n] w (Ret (.tuple #[.agg #[.int .i64 0, .int .i64 0, .bool false], .int .i64 2]) w) := by
  rcases hm with hm | ⟨hm, hm2⟩ | ⟨hm, hm2, hm3⟩
  all_goals
    go_enter Try.func17, Try.ntmps17
    go_wp2_with (first | (go_at_call 34; refine (checkAt_any _ _ _ _ _ _ _ _ _).mono ?_; rintro e w' ⟨rfl, h38, d38, rfl⟩))
    go_returns
    exact ⟨rfl, (by repeat' (first | (with_reducible exact Grows.refl _) | (with_reducible refine Grows.alloc ?_ _) | (with_reducible refine Grows.drew ?_) | (with_reducible refine Grows.ext ?_ _ _)))⟩
set_option maxHeartbeats 1000000 in
theorem move_err (r c t b x y way n : Int) (o wr : Bool) (h : (okF r c t b && atB r c x y wr) = false) (w : World) : Calls Try.prog 17 #[.agg #[.int .i64 r, .int .i64 c, .int .i64 t, .int .i64 b, .bool o], .agg #[.int .i64 x, .int .i64 y, .bool wr], .int .i64 way, .int .i64 n] w (Ret (.tuple #[.agg #[.int .i64 0, .int .i64 0, .bool false], .int .i64 (cErr (okF r c t b) (atB r c x y wr))]) w) := by
  cases h1 : okF r c t b
  all_goals cases h2 : atB r c x y wr
  all_goals (try (simp [h1, h2] at h; done))
  all_goals
    go_enter Try.func17, Try.ntmps17
    go_wp2_with (first | (go_at_call 34; refine (checkAt_any _ _ _ _ _ _ _ _ _).mono ?_; rintro e w' ⟨rfl, h39, d39, rfl⟩))
    go_returns
    exact ⟨rfl, (by repeat' (first | (with_reducible exact Grows.refl _) | (with_reducible refine Grows.alloc ?_ _) | (with_reducible refine Grows.drew ?_) | (with_reducible refine Grows.ext ?_ _ _)))⟩

set_option maxHeartbeats 2000000 in
theorem move_way0 (r c t b x y n : Int) (o wr : Bool) (h : okF r c t b = true) (h2 : atB r c x y wr = true) (hn : 0 ≤ n) (w : World) : Calls Try.prog 17 #[.agg #[.int .i64 r, .int .i64 c, .int .i64 t, .int .i64 b, .bool o], .agg #[.int .i64 x, .int .i64 y, .bool wr], .int .i64 0, .int .i64 n] w (Ret (.tuple #[.agg #[.int .i64 (upRow t x (min n (r + c))), .int .i64 y, .bool false], .int .i64 0]) w) := by
  obtain ⟨f1, f2, f3, f4, f5⟩ := okF_iff.1 h
  rcases (by omega : n ≤ r + c ∨ r + c < n) with hm | hm
  · rw [show min n (r + c) = n by omega]
    go_enter Try.func17, Try.ntmps17
    go_wp2_with (first | (go_at_call 34; refine (checkAt_any _ _ _ _ _ _ _ _ _).mono ?_; rintro e w' ⟨rfl, h40, d40, rfl⟩))
    refine (told_move0 _ _ _ w.heap.size r c t b x y n o wr h h2 (by omega) _ ?_ ?_ ?_ ?_).mono ?_
    · exact ⟨by simp [go_sem], by simp [go_sem], by simp [go_sem], by simp [go_sem], by simp [go_sem]⟩
    · exact ⟨by simp [go_sem], by simp [go_sem]⟩
    · exact ⟨by simp [go_sem], by simp [go_sem]⟩
    · exact ⟨by simp [go_sem], by simp [go_sem], by simp [go_sem], by simp [go_sem], by simp [go_sem], by simp [go_sem]⟩
    rintro e w' ⟨rfl, h0, d0, rfl⟩
    go_wp2
    go_returns
    exact ⟨rfl, (by repeat' (first | (with_reducible exact Grows.refl _) | (with_reducible refine Grows.alloc ?_ _) | (with_reducible refine Grows.drew ?_) | (with_reducible refine Grows.ext ?_ _ _)))⟩
  · rw [show min n (r + c) = r + c by omega]
    go_enter Try.func17, Try.ntmps17
    go_wp2_with (first | (go_at_call 34; refine (checkAt_any _ _ _ _ _ _ _ _ _).mono ?_; rintro e w' ⟨rfl, h41, d41, rfl⟩))
    refine (told_move0 _ _ _ w.heap.size r c t b x y (r + c) o wr h h2 (by omega) _ ?_ ?_ ?_ ?_).mono ?_
    · exact ⟨by simp [go_sem], by simp [go_sem], by simp [go_sem], by simp [go_sem], by simp [go_sem]⟩
    · exact ⟨by simp [go_sem], by simp [go_sem]⟩
    · exact ⟨by simp [go_sem], by simp [go_sem]⟩
    · exact ⟨by simp [go_sem], by simp [go_sem], by simp [go_sem], by simp [go_sem], by simp [go_sem], by simp [go_sem]⟩
    rintro e w' ⟨rfl, h0, d0, rfl⟩
    go_wp2
    go_returns
    exact ⟨rfl, (by repeat' (first | (with_reducible exact Grows.refl _) | (with_reducible refine Grows.alloc ?_ _) | (with_reducible refine Grows.drew ?_) | (with_reducible refine Grows.ext ?_ _ _)))⟩

set_option maxHeartbeats 2000000 in
theorem move_way1 (r c t b x y n : Int) (o wr : Bool) (h : okF r c t b = true) (h2 : atB r c x y wr = true) (hn : 0 ≤ n) (w : World) : Calls Try.prog 17 #[.agg #[.int .i64 r, .int .i64 c, .int .i64 t, .int .i64 b, .bool o], .agg #[.int .i64 x, .int .i64 y, .bool wr], .int .i64 1, .int .i64 n] w (Ret (.tuple #[.agg #[.int .i64 (downRow r b x (min n (r + c))), .int .i64 y, .bool false], .int .i64 0]) w) := by
  obtain ⟨f1, f2, f3, f4, f5⟩ := okF_iff.1 h
  rcases (by omega : n ≤ r + c ∨ r + c < n) with hm | hm
  · rw [show min n (r + c) = n by omega]
    go_enter Try.func17, Try.ntmps17
    go_wp2_with (first | (go_at_call 34; refine (checkAt_any _ _ _ _ _ _ _ _ _).mono ?_; rintro e w' ⟨rfl, h42, d42, rfl⟩))
    refine (told_move1 _ _ _ w.heap.size r c t b x y n o wr h h2 (by omega) _ ?_ ?_ ?_ ?_).mono ?_
    · exact ⟨by simp [go_sem], by simp [go_sem], by simp [go_sem], by simp [go_sem], by simp [go_sem]⟩
    · exact ⟨by simp [go_sem], by simp [go_sem]⟩
    · exact ⟨by simp [go_sem], by simp [go_sem]⟩
    · exact ⟨by simp [go_sem], by simp [go_sem], by simp [go_sem], by simp [go_sem], by simp [go_sem], by simp [go_sem]⟩
    rintro e w' ⟨rfl, h0, d0, rfl⟩
    go_wp2
    go_returns
    exact ⟨rfl, (by repeat' (first | (with_reducible exact Grows.refl _) | (with_reducible refine Grows.alloc ?_ _) | (with_reducible refine Grows.drew ?_) | (with_reducible refine Grows.ext ?_ _ _)))⟩
  · rw [show min n (r + c) = r + c by omega]
    go_enter Try.func17, Try.ntmps17
    go_wp2_with (first | (go_at_call 34; refine (checkAt_any _ _ _ _ _ _ _ _ _).mono ?_; rintro e w' ⟨rfl, h43, d43, rfl⟩))
    refine (told_move1 _ _ _ w.heap.size r c t b x y (r + c) o wr h h2 (by omega) _ ?_ ?_ ?_ ?_).mono ?_
    · exact ⟨by simp [go_sem], by simp [go_sem], by simp [go_sem], by simp [go_sem], by simp [go_sem]⟩
    · exact ⟨by simp [go_sem], by simp [go_sem]⟩
    · exact ⟨by simp [go_sem], by simp [go_sem]⟩
    · exact ⟨by simp [go_sem], by simp [go_sem], by simp [go_sem], by simp [go_sem], by simp [go_sem], by simp [go_sem]⟩
    rintro e w' ⟨rfl, h0, d0, rfl⟩
    go_wp2
    go_returns
    exact ⟨rfl, (by repeat' (first | (with_reducible exact Grows.refl _) | (with_reducible refine Grows.alloc ?_ _) | (with_reducible refine Grows.drew ?_) | (with_reducible refine Grows.ext ?_ _ _)))⟩

set_option maxHeartbeats 2000000 in
theorem move_way2 (r c t b x y n : Int) (o wr : Bool) (h : okF r c t b = true) (h2 : atB r c x y wr = true) (hn : 0 ≤ n) (w : World) : Calls Try.prog 17 #[.agg #[.int .i64 r, .int .i64 c, .int .i64 t, .int .i64 b, .bool o], .agg #[.int .i64 x, .int .i64 y, .bool wr], .int .i64 2, .int .i64 n] w (Ret (.tuple #[.agg #[.int .i64 x, .int .i64 (cl (y + min n (r + c)) 0 (c - 1)), .bool false], .int .i64 0]) w) := by
  obtain ⟨f1, f2, f3, f4, f5⟩ := okF_iff.1 h
  rcases (by omega : n ≤ r + c ∨ r + c < n) with hm | hm
  · rw [show min n (r + c) = n by omega]
    go_enter Try.func17, Try.ntmps17
    go_wp2_with (first | (go_at_call 34; refine (checkAt_any _ _ _ _ _ _ _ _ _).mono ?_; rintro e w' ⟨rfl, h44, d44, rfl⟩))
    refine (told_move2 _ _ _ w.heap.size r c t b x y n o wr h h2 (by omega) _ ?_ ?_ ?_ ?_).mono ?_
    · exact ⟨by simp [go_sem], by simp [go_sem], by simp [go_sem], by simp [go_sem], by simp [go_sem]⟩
    · exact ⟨by simp [go_sem], by simp [go_sem]⟩
    · exact ⟨by simp [go_sem], by simp [go_sem]⟩
    · exact ⟨by simp [go_sem], by simp [go_sem], by simp [go_sem], by simp [go_sem], by simp [go_sem], by simp [go_sem]⟩
    rintro e w' ⟨rfl, h0, d0, rfl⟩
    go_wp2
    go_returns
    exact ⟨rfl, (by repeat' (first | (with_reducible exact Grows.refl _) | (with_reducible refine Grows.alloc ?_ _) | (with_reducible refine Grows.drew ?_) | (with_reducible refine Grows.ext ?_ _ _)))⟩
  · rw [show min n (r + c) = r + c by omega]
    go_enter Try.func17, Try.ntmps17
    go_wp2_with (first | (go_at_call 34; refine (checkAt_any _ _ _ _ _ _ _ _ _).mono ?_; rintro e w' ⟨rfl, h45, d45, rfl⟩))
    refine (told_move2 _ _ _ w.heap.size r c t b x y (r + c) o wr h h2 (by omega) _ ?_ ?_ ?_ ?_).mono ?_
    · exact ⟨by simp [go_sem], by simp [go_sem], by simp [go_sem], by simp [go_sem], by simp [go_sem]⟩
    · exact ⟨by simp [go_sem], by simp [go_sem]⟩
    · exact ⟨by simp [go_sem], by simp [go_sem]⟩
    · exact ⟨by simp [go_sem], by simp [go_sem], by simp [go_sem], by simp [go_sem], by simp [go_sem], by simp [go_sem]⟩
    rintro e w' ⟨rfl, h0, d0, rfl⟩
    go_wp2
    go_returns
    exact ⟨rfl, (by repeat' (first | (with_reducible exact Grows.refl _) | (with_reducible refine Grows.alloc ?_ _) | (with_reducible refine Grows.drew ?_) | (with_reducible refine Grows.ext ?_ _ _)))⟩

set_option maxHeartbeats 2000000 in
theorem move_way3 (r c t b x y n : Int) (o wr : Bool) (h : okF r c t b = true) (h2 : atB r c x y wr = true) (hn : 0 ≤ n) (w : World) : Calls Try.prog 17 #[.agg #[.int .i64 r, .int .i64 c, .int .i64 t, .int .i64 b, .bool o], .agg #[.int .i64 x, .int .i64 y, .bool wr], .int .i64 3, .int .i64 n] w (Ret (.tuple #[.agg #[.int .i64 x, .int .i64 (cl (y - min n (r + c)) 0 (c - 1)), .bool false], .int .i64 0]) w) := by
  obtain ⟨f1, f2, f3, f4, f5⟩ := okF_iff.1 h
  rcases (by omega : n ≤ r + c ∨ r + c < n) with hm | hm
  · rw [show min n (r + c) = n by omega]
    go_enter Try.func17, Try.ntmps17
    go_wp2_with (first | (go_at_call 34; refine (checkAt_any _ _ _ _ _ _ _ _ _).mono ?_; rintro e w' ⟨rfl, h46, d46, rfl⟩))
    refine (told_move3 _ _ _ w.heap.size r c t b x y n o wr h h2 (by omega) _ ?_ ?_ ?_ ?_).mono ?_
    · exact ⟨by simp [go_sem], by simp [go_sem], by simp [go_sem], by simp [go_sem], by simp [go_sem]⟩
    · exact ⟨by simp [go_sem], by simp [go_sem]⟩
    · exact ⟨by simp [go_sem], by simp [go_sem]⟩
    · exact ⟨by simp [go_sem], by simp [go_sem], by simp [go_sem], by simp [go_sem], by simp [go_sem], by simp [go_sem]⟩
    rintro e w' ⟨rfl, h0, d0, rfl⟩
    go_wp2
    go_returns
    exact ⟨rfl, (by repeat' (first | (with_reducible exact Grows.refl _) | (with_reducible refine Grows.alloc ?_ _) | (with_reducible refine Grows.drew ?_) | (with_reducible refine Grows.ext ?_ _ _)))⟩
  · rw [show min n (r + c) = r + c by omega]
    go_enter Try.func17, Try.ntmps17
    go_wp2_with (first | (go_at_call 34; refine (checkAt_any _ _ _ _ _ _ _ _ _).mono ?_; rintro e w' ⟨rfl, h47, d47, rfl⟩))
    refine (told_move3 _ _ _ w.heap.size r c t b x y (r + c) o wr h h2 (by omega) _ ?_ ?_ ?_ ?_).mono ?_
    · exact ⟨by simp [go_sem], by simp [go_sem], by simp [go_sem], by simp [go_sem], by simp [go_sem]⟩
    · exact ⟨by simp [go_sem], by simp [go_sem]⟩
    · exact ⟨by simp [go_sem], by simp [go_sem]⟩
    · exact ⟨by simp [go_sem], by simp [go_sem], by simp [go_sem], by simp [go_sem], by simp [go_sem], by simp [go_sem]⟩
    rintro e w' ⟨rfl, h0, d0, rfl⟩
    go_wp2
    go_returns
    exact ⟨rfl, (by repeat' (first | (with_reducible exact Grows.refl _) | (with_reducible refine Grows.alloc ?_ _) | (with_reducible refine Grows.drew ?_) | (with_reducible refine Grows.ext ?_ _ _)))⟩

theorem move_any (r c t b x y way n : Int) (o wr : Bool) (w : World) : Calls Try.prog 17 #[.agg #[.int .i64 r, .int .i64 c, .int .i64 t, .int .i64 b, .bool o], .agg #[.int .i64 x, .int .i64 y, .bool wr], .int .i64 way, .int .i64 n] w (Ret (.tuple #[.agg #[.int .i64 (sel (okF r c t b && atB r c x y wr && mOk way n) (mvRow r c t b x way n)), .int .i64 (sel (okF r c t b && atB r c x y wr && mOk way n) (mvCol r c y way n)), .bool false], .int .i64 (mErr (okF r c t b) (atB r c x y wr) (mOk way n))]) w) := by
  cases hg : okF r c t b && atB r c x y wr
  · simp only [Bool.false_and, sel_false]
    rw [mErr_bad hg]
    exact move_err r c t b x y way n o wr hg w
  · obtain ⟨h, h2⟩ := Bool.and_eq_true_iff.1 hg
    simp only [Bool.true_and]
    rw [h, h2]
    by_cases hm : mOk way n = true
    · rw [hm]
      obtain ⟨m1, m2, m3⟩ := mOk_iff.1 hm
      simp only [sel_true, mErr_ok]
      have hw : way = 0 ∨ way = 1 ∨ way = 2 ∨ way = 3 := by omega
      rcases hw with rfl | rfl | rfl | rfl
      · exact move_way0 r c t b x y n o wr h h2 m3 w
      · exact move_way1 r c t b x y n o wr h h2 m3 w
      · exact move_way2 r c t b x y n o wr h h2 m3 w
      · exact move_way3 r c t b x y n o wr h h2 m3 w
    · have hm2 : mOk way n = false := by simpa using hm
      rw [hm2]
      simp only [sel_false, mErr_arg]
      rw [mOk_iff] at hm
      exact move_bad r c t b x y way n o wr h h2 (by omega) w
end Go.Proofs.Ytepbknpdhiaepaa
