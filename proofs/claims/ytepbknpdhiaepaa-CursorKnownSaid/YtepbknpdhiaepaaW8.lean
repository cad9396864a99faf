/-
  Walks: told at a line; line, Index and Reverse.
-/
import Derived.Test.YtepbknpdhiaepaaRows
import Derived.Test.YtepbknpdhiaepaaLt
import Derived.Test.YtepbknpdhiaepaaDefs
import Derived.Test.YtepbknpdhiaepaaW1
import Derived.Test.YtepbknpdhiaepaaW2
import Derived.Test.YtepbknpdhiaepaaW3
import Derived.Test.YtepbknpdhiaepaaW5
import Derived.Test.YtepbknpdhiaepaaW6
import Derived.Test.YtepbknpdhiaepaaW7
import Derived.WalkKit
import Derived.WalkSpells
import Derived.WalkLawsBesides
import Derived.Handy
import Derived.Lib.Hide
import Derived.Deep.Light
import Derived.Deep.LoopGhost
import Derived.BigGuardPart
import Derived.BigQuiet
import Derived.Deep.QuietTactic
import Derived.Deep.RegionHeld3
import Derived.Test.YtepbknpdhiaepaaReg
import Derived.Test.YtepbknpdhiaepaaReg3
namespace Go.Proofs.Ytepbknpdhiaepaa
open Go.RowKit


theorem FlagAt.grows {w w' : World} {B : Nat} {g : Bool} (h : FlagAt w B g) (gr : Grows w w') : FlagAt w' B g := by
  obtain ⟨x, d, rfl⟩ := gr
  obtain ⟨h0, h1, h2⟩ := h
  exact ⟨by rw [ext_size]; omega, by rw [ext_cell _ _ _ _ _ h0]; exact h1, by rw [ext_frozen _ _ _ _ _ h0]; exact h2⟩

set_option maxHeartbeats 2000000 in
theorem told_line_yes (Be Bg Bf Bb : Nat) (r c t b x y edge by' : Int) (o wr g : Bool) (h : okF r c t b = true) (h2 : atB r c x y wr = true) (hb : -1 ≤ by' ∧ by' ≤ 1) (hx : (x == edge) = true) (w : World) (he : IntAt w Be edge) (hg : FlagAt w Bg g) (hf : FldAt w Bf r c t b o) (hby : IntAt w Bb by') (hne : Bg ≠ Bf ∧ Bg ≠ Bb) :
    Calls Try.prog 52 #[.agg #[.int .i64 r, .int .i64 c, .int .i64 t, .int .i64 b, .bool o], .agg #[.int .i64 x, .int .i64 y, .bool wr], .func (.func 64) #[] #[.pointer (some ⟨Be, 0, none⟩), .pointer (some ⟨Bg, 0, none⟩), .pointer (some ⟨Bf, 0, none⟩), .pointer (some ⟨Bb, 0, none⟩)]] w (fun e w' => e = .returned (.tuple #[.agg #[.int .i64 x, .int .i64 y, .bool false], .int .i64 0]) ∧ Grows (w.setCell ⟨Bg, 0, none⟩ (.bool true)) w') := by
  obtain ⟨hx0, hx1, -⟩ := atB_iff.1 h2
  have g0 := hg.1
  go_enter Try.func52, Try.ntmps52
  go_wp2_with (first | (go_at_call 34; refine (checkAt_any _ _ _ _ _ _ _ _ _).mono ?_; rintro e w' ⟨rfl, h24, d24, rfl⟩))
  refine (line1_yes _ Be Bg Bf Bb r c t b x y edge by' o false g h hx0 hx1 hb hx _ ?_ (he.grows (by repeat' (first | (with_reducible exact Grows.refl _) | (with_reducible refine Grows.alloc ?_ _) | (with_reducible refine Grows.drew ?_) | (with_reducible refine Grows.ext ?_ _ _)))) (hg.grows (by repeat' (first | (with_reducible exact Grows.refl _) | (with_reducible refine Grows.alloc ?_ _) | (with_reducible refine Grows.drew ?_) | (with_reducible refine Grows.ext ?_ _ _)))) (hf.grows (by repeat' (first | (with_reducible exact Grows.refl _) | (with_reducible refine Grows.alloc ?_ _) | (with_reducible refine Grows.drew ?_) | (with_reducible refine Grows.ext ?_ _ _)))) (hby.grows (by repeat' (first | (with_reducible exact Grows.refl _) | (with_reducible refine Grows.alloc ?_ _) | (with_reducible refine Grows.drew ?_) | (with_reducible refine Grows.ext ?_ _ _)))) ⟨by omega, hne.1, hne.2⟩).mono ?_
  · exact ⟨by simp [go_sem], by simp [go_sem], by simp [go_sem], by simp [go_sem], by simp [go_sem], by simp [go_sem], by simp [go_sem]⟩
  rintro e w' ⟨rfl, h0, d0, rfl⟩
  have e1 : ¬ Bg = w.heap.size := by omega
  have e2 : ¬ Bg = w.heap.size + 1 := by omega
  have e3 : ¬ Bg = w.heap.size + 1 + 1 := by omega
  have e1' : ¬ w.heap.size = Bg := by omega
  have e2' : ¬ w.heap.size + 1 = Bg := by omega
  have e3' : ¬ w.heap.size + 1 + 1 = Bg := by omega
  go_wp2_with fail
  go_returns
  refine ⟨rfl, ?_⟩
  first | ((repeat' (first | (with_reducible exact Grows.refl _) | (with_reducible refine Grows.alloc ?_ _) | (with_reducible refine Grows.drew ?_) | (with_reducible refine Grows.ext ?_ _ _))); done) | (refine Grows.setIn ?_ g0 _; ((repeat' (first | (with_reducible exact Grows.refl _) | (with_reducible refine Grows.alloc ?_ _) | (with_reducible refine Grows.drew ?_) | (with_reducible refine Grows.ext ?_ _ _))); done))

set_option maxHeartbeats 2000000 in
theorem told_line_no (Be Bg Bf Bb : Nat) (r c t b x y edge by' : Int) (o wr g : Bool) (h : okF r c t b = true) (h2 : atB r c x y wr = true) (hb : -1 ≤ by' ∧ by' ≤ 1) (hx : (x == edge) = false) (w : World) (he : IntAt w Be edge) (hg : FlagAt w Bg g) (hf : FldAt w Bf r c t b o) (hby : IntAt w Bb by') (hne : Bg ≠ Bf ∧ Bg ≠ Bb) :
    Calls Try.prog 52 #[.agg #[.int .i64 r, .int .i64 c, .int .i64 t, .int .i64 b, .bool o], .agg #[.int .i64 x, .int .i64 y, .bool wr], .func (.func 64) #[] #[.pointer (some ⟨Be, 0, none⟩), .pointer (some ⟨Bg, 0, none⟩), .pointer (some ⟨Bf, 0, none⟩), .pointer (some ⟨Bb, 0, none⟩)]] w (fun e w' => e = .returned (.tuple #[.agg #[.int .i64 (cl (x + by') 0 (r - 1)), .int .i64 y, .bool false], .int .i64 0]) ∧ Grows (w.setCell ⟨Bg, 0, none⟩ (.bool false)) w') := by
  obtain ⟨hx0, hx1, -⟩ := atB_iff.1 h2
  have g0 := hg.1
  go_enter Try.func52, Try.ntmps52
  go_wp2_with (first | (go_at_call 34; refine (checkAt_any _ _ _ _ _ _ _ _ _).mono ?_; rintro e w' ⟨rfl, h25, d25, rfl⟩))
  refine (line1_no _ Be Bg Bf Bb r c t b x y edge by' o false g h hx0 hx1 hb hx _ ?_ (he.grows (by repeat' (first | (with_reducible exact Grows.refl _) | (with_reducible refine Grows.alloc ?_ _) | (with_reducible refine Grows.drew ?_) | (with_reducible refine Grows.ext ?_ _ _)))) (hg.grows (by repeat' (first | (with_reducible exact Grows.refl _) | (with_reducible refine Grows.alloc ?_ _) | (with_reducible refine Grows.drew ?_) | (with_reducible refine Grows.ext ?_ _ _)))) (hf.grows (by repeat' (first | (with_reducible exact Grows.refl _) | (with_reducible refine Grows.alloc ?_ _) | (with_reducible refine Grows.drew ?_) | (with_reducible refine Grows.ext ?_ _ _)))) (hby.grows (by repeat' (first | (with_reducible exact Grows.refl _) | (with_reducible refine Grows.alloc ?_ _) | (with_reducible refine Grows.drew ?_) | (with_reducible refine Grows.ext ?_ _ _)))) ⟨by omega, hne.1, hne.2⟩).mono ?_
  · exact ⟨by simp [go_sem], by simp [go_sem], by simp [go_sem], by simp [go_sem], by simp [go_sem], by simp [go_sem], by simp [go_sem]⟩
  rintro e w' ⟨rfl, h0, d0, rfl⟩
  have e1 : ¬ Bg = w.heap.size := by omega
  have e2 : ¬ Bg = w.heap.size + 1 := by omega
  have e3 : ¬ Bg = w.heap.size + 1 + 1 := by omega
  have e1' : ¬ w.heap.size = Bg := by omega
  have e2' : ¬ w.heap.size + 1 = Bg := by omega
  have e3' : ¬ w.heap.size + 1 + 1 = Bg := by omega
  go_wp2_with fail
  go_returns
  refine ⟨rfl, ?_⟩
  first | ((repeat' (first | (with_reducible exact Grows.refl _) | (with_reducible refine Grows.alloc ?_ _) | (with_reducible refine Grows.drew ?_) | (with_reducible refine Grows.ext ?_ _ _))); done) | (refine Grows.setIn ?_ g0 _; ((repeat' (first | (with_reducible exact Grows.refl _) | (with_reducible refine Grows.alloc ?_ _) | (with_reducible refine Grows.drew ?_) | (with_reducible refine Grows.ext ?_ _ _))); done))

set_option maxHeartbeats 2000000 in
theorem line_any (r c t b x y edge by' : Int) (o wr : Bool) (hb : -1 ≤ by' ∧ by' ≤ 1) (w : World) : Calls Try.prog 54 #[.agg #[.int .i64 r, .int .i64 c, .int .i64 t, .int .i64 b, .bool o], .agg #[.int .i64 x, .int .i64 y, .bool wr], .int .i64 edge, .int .i64 by'] w (Ret (.tuple #[.agg #[.int .i64 (sel (okF r c t b && atB r c x y wr) (lnRow r x edge (by'))), .int .i64 (sel (okF r c t b && atB r c x y wr) y), .bool false], .bool ((okF r c t b && atB r c x y wr) && (x == edge)), .int .i64 (cErr (okF r c t b) (atB r c x y wr))]) w) := by
  cases hg : okF r c t b && atB r c x y wr
  · simp only [sel_false, Bool.false_and]
    go_enter Try.func54, Try.ntmps54
    go_wp2_with (go_at_call 52; refine (told_no _ _ _ _ _ _ _ _ _ hg _).mono ?_; rintro e w' ⟨rfl, h0, d0, rfl⟩)
    go_region
    go_wp2
    go_returns
    exact ⟨rfl, (by repeat' (first | (with_reducible exact Grows.refl _) | (with_reducible refine Grows.alloc ?_ _) | (with_reducible refine Grows.drew ?_) | (with_reducible refine Grows.ext ?_ _ _)))⟩
  · obtain ⟨h, h2⟩ := Bool.and_eq_true_iff.1 hg
    clear hg
    simp only [sel_true, Bool.true_and]
    cases hx : x == edge
    all_goals
      go_enter Try.func54, Try.ntmps54
      go_wp2_with fail
    · refine (told_line_no _ _ _ _ r c t b x y edge by' o wr false h h2 hb hx _ ?_ ?_ ?_ ?_ ⟨by omega, by omega⟩).mono ?_
      · exact ⟨by simp [go_sem], by simp [go_sem]⟩
      · exact ⟨by simp [go_sem], by simp [go_sem], by simp [go_sem]⟩
      · exact ⟨by simp [go_sem], by simp [go_sem], by simp [go_sem], by simp [go_sem], by simp [go_sem], by simp [go_sem]⟩
      · exact ⟨by simp [go_sem], by simp [go_sem]⟩
      rintro e w' ⟨rfl, h0, d0, rfl⟩
      go_wp2
      go_region
      go_wp2
      go_returns
      rw [h, h2, lnRow, if_neg (by rw [hx]; exact Bool.false_ne_true)]
      exact ⟨rfl, (by repeat' (first | (with_reducible exact Grows.refl _) | (with_reducible refine Grows.alloc ?_ _) | (with_reducible refine Grows.drew ?_) | (with_reducible refine Grows.ext ?_ _ _)))⟩
    · refine (told_line_yes _ _ _ _ r c t b x y edge by' o wr false h h2 hb hx _ ?_ ?_ ?_ ?_ ⟨by omega, by omega⟩).mono ?_
      · exact ⟨by simp [go_sem], by simp [go_sem]⟩
      · exact ⟨by simp [go_sem], by simp [go_sem], by simp [go_sem]⟩
      · exact ⟨by simp [go_sem], by simp [go_sem], by simp [go_sem], by simp [go_sem], by simp [go_sem], by simp [go_sem]⟩
      · exact ⟨by simp [go_sem], by simp [go_sem]⟩
      rintro e w' ⟨rfl, h0, d0, rfl⟩
      go_wp2
      go_region
      go_wp2
      go_returns
      rw [h, h2, lnRow, if_pos hx]
      exact ⟨rfl, (by repeat' (first | (with_reducible exact Grows.refl _) | (with_reducible refine Grows.alloc ?_ _) | (with_reducible refine Grows.drew ?_) | (with_reducible refine Grows.ext ?_ _ _)))⟩

set_option maxHeartbeats 1000000 in
theorem index_any (r c t b x y : Int) (o wr : Bool) (w : World) : Calls Try.prog 20 #[.agg #[.int .i64 r, .int .i64 c, .int .i64 t, .int .i64 b, .bool o], .agg #[.int .i64 x, .int .i64 y, .bool wr]] w (Ret (.tuple #[.agg #[.int .i64 (sel (okF r c t b && atB r c x y wr) (lnRow r x b (1))), .int .i64 (sel (okF r c t b && atB r c x y wr) y), .bool false], .bool ((okF r c t b && atB r c x y wr) && (x == b)), .int .i64 (cErr (okF r c t b) (atB r c x y wr))]) w) := by
  go_enter Try.func20, Try.ntmps20
  go_wp2_with (go_at_call 54; refine (line_any _ _ _ _ _ _ _ (1) _ _ (by omega) _).mono ?_; rintro e w' ⟨rfl, h0, d0, rfl⟩)
  go_returns
  exact ⟨rfl, (by repeat' (first | (with_reducible exact Grows.refl _) | (with_reducible refine Grows.alloc ?_ _) | (with_reducible refine Grows.drew ?_) | (with_reducible refine Grows.ext ?_ _ _)))⟩

set_option maxHeartbeats 1000000 in
theorem reverse_any (r c t b x y : Int) (o wr : Bool) (w : World) : Calls Try.prog 21 #[.agg #[.int .i64 r, .int .i64 c, .int .i64 t, .int .i64 b, .bool o], .agg #[.int .i64 x, .int .i64 y, .bool wr]] w (Ret (.tuple #[.agg #[.int .i64 (sel (okF r c t b && atB r c x y wr) (lnRow r x t (-1))), .int .i64 (sel (okF r c t b && atB r c x y wr) y), .bool false], .bool ((okF r c t b && atB r c x y wr) && (x == t)), .int .i64 (cErr (okF r c t b) (atB r c x y wr))]) w) := by
  go_enter Try.func21, Try.ntmps21
  go_wp2_with (go_at_call 54; refine (line_any _ _ _ _ _ _ _ (-1) _ _ (by omega) _).mono ?_; rintro e w' ⟨rfl, h0, d0, rfl⟩)
  go_returns
  exact ⟨rfl, (by repeat' (first | (with_reducible exact Grows.refl _) | (with_reducible refine Grows.alloc ?_ _) | (with_reducible refine Grows.drew ?_) | (with_reducible refine Grows.ext ?_ _ _)))⟩
end Go.Proofs.Ytepbknpdhiaepaa
