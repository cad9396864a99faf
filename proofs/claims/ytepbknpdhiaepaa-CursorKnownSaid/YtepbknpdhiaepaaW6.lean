/-
  Walks: the functions that are handed to told; told; Row and Column.
-/
import Derived.Test.YtepbknpdhiaepaaRows
import Derived.Test.YtepbknpdhiaepaaLt
import Derived.Test.YtepbknpdhiaepaaDefs
import Derived.Test.YtepbknpdhiaepaaW1
import Derived.Test.YtepbknpdhiaepaaW2
import Derived.Test.YtepbknpdhiaepaaW3
import Derived.Test.YtepbknpdhiaepaaW5
import Derived.WalkKit
import Derived.WalkSpells
import Derived.WalkLawsBesides
import Derived.Handy
import Derived.Lib.Hide
import Derived.Deep.Light
import Derived.Deep.LoopGhost
import Derived.BigGuardPart
import Derived.BigQuiet
import Derived.Deep.QuietTactic
import Derived.Deep.RegionHeld3
import Derived.Test.YtepbknpdhiaepaaReg
import Derived.Test.YtepbknpdhiaepaaReg3
namespace Go.Proofs.Ytepbknpdhiaepaa
open Go.RowKit


set_option maxHeartbeats 1000000 in
theorem row1_any (C B1 B2 : Nat) (r c t b n x y : Int) (o wr : Bool) (h : okF r c t b = true) (w : World) (hC : CurAt w C x y wr) (h1 : FldAt w B1 r c t b o) (h2 : IntAt w B2 n) :
    Calls Try.prog 57 #[.pointer (some ⟨C, 0, none⟩), .pointer (some ⟨B1, 0, none⟩), .pointer (some ⟨B2, 0, none⟩)] w (fun e w' => e = .returned (.tuple #[]) ∧ Grows (w.setCell ⟨C, 0, none⟩ (.int .i64 (gRow r t b n o))) w') := by
  obtain ⟨k0, k1, k2, k3, k4, k5⟩ := h1
  obtain ⟨n0, n1⟩ := h2
  obtain ⟨c0, c1, c2, c3, c4, c5, c6⟩ := hC
  go_enter Try.func57, Try.ntmps57
  go_wp2_with (first | (go_at_call 25; refine (goto_yes _ _ _ _ _ _ _ h _).mono ?_; rintro e w' ⟨rfl, h17, d17, rfl⟩))
  go_returns
  refine ⟨rfl, ?_⟩
  first | ((repeat' (first | (with_reducible exact Grows.refl _) | (with_reducible refine Grows.alloc ?_ _) | (with_reducible refine Grows.drew ?_) | (with_reducible refine Grows.ext ?_ _ _))); done) | (refine Grows.setIn ?_ c0 _; ((repeat' (first | (with_reducible exact Grows.refl _) | (with_reducible refine Grows.alloc ?_ _) | (with_reducible refine Grows.drew ?_) | (with_reducible refine Grows.ext ?_ _ _))); done))
set_option maxHeartbeats 1000000 in
theorem col1_any (C B1 B2 : Nat) (r c t b n x y : Int) (o wr : Bool) (h : okF r c t b = true) (w : World) (hC : CurAt w C x y wr) (h1 : FldAt w B1 r c t b o) (h2 : IntAt w B2 n) :
    Calls Try.prog 58 #[.pointer (some ⟨C, 0, none⟩), .pointer (some ⟨B1, 0, none⟩), .pointer (some ⟨B2, 0, none⟩)] w (fun e w' => e = .returned (.tuple #[]) ∧ Grows (w.setCell ⟨C, 1, none⟩ (.int .i64 (gCol c n))) w') := by
  obtain ⟨k0, k1, k2, k3, k4, k5⟩ := h1
  obtain ⟨n0, n1⟩ := h2
  obtain ⟨c0, c1, c2, c3, c4, c5, c6⟩ := hC
  go_enter Try.func58, Try.ntmps58
  go_wp2_with (first | (go_at_call 25; refine (goto_yes _ _ _ _ _ _ _ h _).mono ?_; rintro e w' ⟨rfl, h17, d17, rfl⟩))
  go_returns
  refine ⟨rfl, ?_⟩
  first | ((repeat' (first | (with_reducible exact Grows.refl _) | (with_reducible refine Grows.alloc ?_ _) | (with_reducible refine Grows.drew ?_) | (with_reducible refine Grows.ext ?_ _ _))); done) | (refine Grows.setIn ?_ c0 _; ((repeat' (first | (with_reducible exact Grows.refl _) | (with_reducible refine Grows.alloc ?_ _) | (with_reducible refine Grows.drew ?_) | (with_reducible refine Grows.ext ?_ _ _))); done))

set_option maxHeartbeats 1000000 in
theorem told_no (r c t b x y : Int) (o wr : Bool) (fv : Value) (h : (okF r c t b && atB r c x y wr) = false) (w : World) : Calls Try.prog 52 #[.agg #[.int .i64 r, .int .i64 c, .int .i64 t, .int .i64 b, .bool o], .agg #[.int .i64 x, .int .i64 y, .bool wr], fv] w (Ret (.tuple #[.agg #[.int .i64 0, .int .i64 0, .bool false], .int .i64 (cErr (okF r c t b) (atB r c x y wr))]) w) := by
  cases h1 : okF r c t b
  all_goals cases h2 : atB r c x y wr
  all_goals (try (simp [h1, h2] at h; done))
  all_goals
    go_enter Try.func52, Try.ntmps52
    go_wp2_with (first | (go_at_call 34; refine (checkAt_any _ _ _ _ _ _ _ _ _).mono ?_; rintro e w' ⟨rfl, h18, d18, rfl⟩))
    go_returns
    exact ⟨rfl, (by repeat' (first | (with_reducible exact Grows.refl _) | (with_reducible refine Grows.alloc ?_ _) | (with_reducible refine Grows.drew ?_) | (with_reducible refine Grows.ext ?_ _ _)))⟩

set_option maxHeartbeats 1000000 in
theorem told_row (B1 B2 : Nat) (r c t b n x y : Int) (o wr : Bool) (h : okF r c t b = true) (h2 : atB r c x y wr = true) (w : World) (b1 : FldAt w B1 r c t b o) (b2 : IntAt w B2 n) : Calls Try.prog 52 #[.agg #[.int .i64 r, .int .i64 c, .int .i64 t, .int .i64 b, .bool o], .agg #[.int .i64 x, .int .i64 y, .bool wr], .func (.func 57) #[] #[.pointer (some ⟨B1, 0, none⟩), .pointer (some ⟨B2, 0, none⟩)]] w (Ret (.tuple #[.agg #[.int .i64 (gRow r t b n o), .int .i64 y, .bool false], .int .i64 0]) w) := by
  go_enter Try.func52, Try.ntmps52
  go_wp2_with (first | (go_at_call 34; refine (checkAt_any _ _ _ _ _ _ _ _ _).mono ?_; rintro e w' ⟨rfl, h19, d19, rfl⟩))
  refine (row1_any _ _ _ r c t b n x y o false h _ ?_ (b1.grows (by repeat' (first | (with_reducible exact Grows.refl _) | (with_reducible refine Grows.alloc ?_ _) | (with_reducible refine Grows.drew ?_) | (with_reducible refine Grows.ext ?_ _ _)))) (b2.grows (by repeat' (first | (with_reducible exact Grows.refl _) | (with_reducible refine Grows.alloc ?_ _) | (with_reducible refine Grows.drew ?_) | (with_reducible refine Grows.ext ?_ _ _))))).mono ?_
  · exact ⟨by simp [go_sem], by simp [go_sem], by simp [go_sem], by simp [go_sem], by simp [go_sem], by simp [go_sem], by simp [go_sem]⟩
  rintro e w' ⟨rfl, h0, d0, rfl⟩
  go_wp2_with fail
  go_returns
  exact ⟨rfl, (by repeat' (first | (with_reducible exact Grows.refl _) | (with_reducible refine Grows.alloc ?_ _) | (with_reducible refine Grows.drew ?_) | (with_reducible refine Grows.ext ?_ _ _)))⟩

set_option maxHeartbeats 1000000 in
theorem told_col (B1 B2 : Nat) (r c t b n x y : Int) (o wr : Bool) (h : okF r c t b = true) (h2 : atB r c x y wr = true) (w : World) (b1 : FldAt w B1 r c t b o) (b2 : IntAt w B2 n) : Calls Try.prog 52 #[.agg #[.int .i64 r, .int .i64 c, .int .i64 t, .int .i64 b, .bool o], .agg #[.int .i64 x, .int .i64 y, .bool wr], .func (.func 58) #[] #[.pointer (some ⟨B1, 0, none⟩), .pointer (some ⟨B2, 0, none⟩)]] w (Ret (.tuple #[.agg #[.int .i64 x, .int .i64 (gCol c n), .bool false], .int .i64 0]) w) := by
  go_enter Try.func52, Try.ntmps52
  go_wp2_with (first | (go_at_call 34; refine (checkAt_any _ _ _ _ _ _ _ _ _).mono ?_; rintro e w' ⟨rfl, h20, d20, rfl⟩))
  refine (col1_any _ _ _ r c t b n x y o false h _ ?_ (b1.grows (by repeat' (first | (with_reducible exact Grows.refl _) | (with_reducible refine Grows.alloc ?_ _) | (with_reducible refine Grows.drew ?_) | (with_reducible refine Grows.ext ?_ _ _)))) (b2.grows (by repeat' (first | (with_reducible exact Grows.refl _) | (with_reducible refine Grows.alloc ?_ _) | (with_reducible refine Grows.drew ?_) | (with_reducible refine Grows.ext ?_ _ _))))).mono ?_
  · exact ⟨by simp [go_sem], by simp [go_sem], by simp [go_sem], by simp [go_sem], by simp [go_sem], by simp [go_sem], by simp [go_sem]⟩
  rintro e w' ⟨rfl, h0, d0, rfl⟩
  go_wp2_with fail
  go_returns
  exact ⟨rfl, (by repeat' (first | (with_reducible exact Grows.refl _) | (with_reducible refine Grows.alloc ?_ _) | (with_reducible refine Grows.drew ?_) | (with_reducible refine Grows.ext ?_ _ _)))⟩
end Go.Proofs.Ytepbknpdhiaepaa
