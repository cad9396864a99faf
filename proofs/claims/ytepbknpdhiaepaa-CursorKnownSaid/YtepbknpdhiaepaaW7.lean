/-
  Walks: Row, Column; line, Index and Reverse.
-/
import Derived.Test.YtepbknpdhiaepaaRows
import Derived.Test.YtepbknpdhiaepaaLt
import Derived.Test.YtepbknpdhiaepaaDefs
import Derived.Test.YtepbknpdhiaepaaW1
import Derived.Test.YtepbknpdhiaepaaW2
import Derived.Test.YtepbknpdhiaepaaW3
import Derived.Test.YtepbknpdhiaepaaW5
import Derived.Test.YtepbknpdhiaepaaW6
import Derived.WalkKit
import Derived.WalkSpells
import Derived.WalkLawsBesides
import Derived.Handy
import Derived.Lib.Hide
import Derived.Deep.Light
import Derived.Deep.LoopGhost
import Derived.BigGuardPart
import Derived.BigQuiet
import Derived.Deep.QuietTactic
import Derived.Deep.RegionHeld3
import Derived.Test.YtepbknpdhiaepaaReg
import Derived.Test.YtepbknpdhiaepaaReg3
namespace Go.Proofs.Ytepbknpdhiaepaa
open Go.RowKit


set_option maxHeartbeats 1000000 in
theorem rowTo_any (r c t b n x y : Int) (o wr : Bool) (w : World) : Calls Try.prog 31 #[.agg #[.int .i64 r, .int .i64 c, .int .i64 t, .int .i64 b, .bool o], .agg #[.int .i64 x, .int .i64 y, .bool wr], .int .i64 n] w (Ret (.tuple #[.agg #[.int .i64 (sel (okF r c t b && atB r c x y wr) (gRow r t b n o)), .int .i64 (sel (okF r c t b && atB r c x y wr) y), .bool false], .int .i64 (cErr (okF r c t b) (atB r c x y wr))]) w) := by
  cases hg : okF r c t b && atB r c x y wr
  · simp only [sel_false]
    go_enter Try.func31, Try.ntmps31
    go_wp2_with (go_at_call 52; refine (told_no _ _ _ _ _ _ _ _ _ hg _).mono ?_; rintro e w' ⟨rfl, h0, d0, rfl⟩)
    go_returns
    exact ⟨rfl, (by repeat' (first | (with_reducible exact Grows.refl _) | (with_reducible refine Grows.alloc ?_ _) | (with_reducible refine Grows.drew ?_) | (with_reducible refine Grows.ext ?_ _ _)))⟩
  · obtain ⟨h, h2⟩ := Bool.and_eq_true_iff.1 hg
    clear hg
    simp only [sel_true]
    go_enter Try.func31, Try.ntmps31
    go_wp2_with fail
    refine (told_row _ _ r c t b n x y o wr h h2 _ ?_ ?_).mono ?_
    · exact ⟨by simp [go_sem], by simp [go_sem], by simp [go_sem], by simp [go_sem], by simp [go_sem], by simp [go_sem]⟩
    · exact ⟨by simp [go_sem], by simp [go_sem]⟩
    rintro e w' ⟨rfl, h0, d0, rfl⟩
    go_wp2
    go_returns
    rw [h, h2]
    exact ⟨rfl, (by repeat' (first | (with_reducible exact Grows.refl _) | (with_reducible refine Grows.alloc ?_ _) | (with_reducible refine Grows.drew ?_) | (with_reducible refine Grows.ext ?_ _ _)))⟩

set_option maxHeartbeats 1000000 in
theorem colTo_any (r c t b n x y : Int) (o wr : Bool) (w : World) : Calls Try.prog 32 #[.agg #[.int .i64 r, .int .i64 c, .int .i64 t, .int .i64 b, .bool o], .agg #[.int .i64 x, .int .i64 y, .bool wr], .int .i64 n] w (Ret (.tuple #[.agg #[.int .i64 (sel (okF r c t b && atB r c x y wr) x), .int .i64 (sel (okF r c t b && atB r c x y wr) (gCol c n)), .bool false], .int .i64 (cErr (okF r c t b) (atB r c x y wr))]) w) := by
  cases hg : okF r c t b && atB r c x y wr
  · simp only [sel_false]
    go_enter Try.func32, Try.ntmps32
    go_wp2_with (go_at_call 52; refine (told_no _ _ _ _ _ _ _ _ _ hg _).mono ?_; rintro e w' ⟨rfl, h0, d0, rfl⟩)
    go_returns
    exact ⟨rfl, (by repeat' (first | (with_reducible exact Grows.refl _) | (with_reducible refine Grows.alloc ?_ _) | (with_reducible refine Grows.drew ?_) | (with_reducible refine Grows.ext ?_ _ _)))⟩
  · obtain ⟨h, h2⟩ := Bool.and_eq_true_iff.1 hg
    clear hg
    simp only [sel_true]
    go_enter Try.func32, Try.ntmps32
    go_wp2_with fail
    refine (told_col _ _ r c t b n x y o wr h h2 _ ?_ ?_).mono ?_
    · exact ⟨by simp [go_sem], by simp [go_sem], by simp [go_sem], by simp [go_sem], by simp [go_sem], by simp [go_sem]⟩
    · exact ⟨by simp [go_sem], by simp [go_sem]⟩
    rintro e w' ⟨rfl, h0, d0, rfl⟩
    go_wp2
    go_returns
    rw [h, h2]
    exact ⟨rfl, (by repeat' (first | (with_reducible exact Grows.refl _) | (with_reducible refine Grows.alloc ?_ _) | (with_reducible refine Grows.drew ?_) | (with_reducible refine Grows.ext ?_ _ _)))⟩

set_option maxHeartbeats 1000000 in
theorem line1_yes (C Be Bg Bf Bb : Nat) (r c t b x y edge by' : Int) (o wr g : Bool) (h : okF r c t b = true) (_hx0 : 0 ≤ x) (_hx1 : x < r) (_hb : -1 ≤ by' ∧ by' ≤ 1) (hx : (x == edge) = true) (w : World) (hC : CurAt w C x y wr) (he : IntAt w Be edge) (hg : FlagAt w Bg g) (hf : FldAt w Bf r c t b o) (hby : IntAt w Bb by') (hne : Bg ≠ C ∧ Bg ≠ Bf ∧ Bg ≠ Bb) :
    Calls Try.prog 64 #[.pointer (some ⟨C, 0, none⟩), .pointer (some ⟨Be, 0, none⟩), .pointer (some ⟨Bg, 0, none⟩), .pointer (some ⟨Bf, 0, none⟩), .pointer (some ⟨Bb, 0, none⟩)] w (fun e w' => e = .returned (.tuple #[]) ∧ Grows (w.setCell ⟨Bg, 0, none⟩ (.bool true)) w') := by
  obtain ⟨f1, f2, f3, f4, f5⟩ := okF_iff.1 h
  obtain ⟨k0, k1, k2, k3, k4, k5⟩ := hf
  obtain ⟨n0, n1⟩ := he
  obtain ⟨m0, m1⟩ := hby
  obtain ⟨g0, g1, g2⟩ := hg
  obtain ⟨c0, c1, c2, c3, c4, c5, c6⟩ := hC
  obtain ⟨e1, e2, e3⟩ := hne
  have e4 : C ≠ Bg := fun e => e1 e.symm
  have e5 : Bf ≠ Bg := fun e => e2 e.symm
  have e6 : Bb ≠ Bg := fun e => e3 e.symm
  go_enter Try.func64, Try.ntmps64
  go_wp2_with fail
  refine wp_region_grow_tail 6 (by kernel_rfl) (by kernel_rfl) ?_
  simp only [List.take_succ_cons, List.take_zero, List.drop_succ_cons, List.drop_zero]
  repeat (first | go_big_quiet_step ((fail)) | quiet_step ((fail)))
  refine wpQuiet_nil ?_
  rintro _ ⟨g21, rfl⟩
  go_wp2
  go_returns
  refine ⟨rfl, ?_⟩
  first | ((repeat' (first | (with_reducible exact Grows.refl _) | (with_reducible refine Grows.alloc ?_ _) | (with_reducible refine Grows.drew ?_) | (with_reducible refine Grows.ext ?_ _ _))); done) | (refine Grows.setIn ?_ g0 _; ((repeat' (first | (with_reducible exact Grows.refl _) | (with_reducible refine Grows.alloc ?_ _) | (with_reducible refine Grows.drew ?_) | (with_reducible refine Grows.ext ?_ _ _))); done))

set_option maxHeartbeats 1000000 in
theorem line1_no (C Be Bg Bf Bb : Nat) (r c t b x y edge by' : Int) (o wr g : Bool) (h : okF r c t b = true) (hx0 : 0 ≤ x) (hx1 : x < r) (hb : -1 ≤ by' ∧ by' ≤ 1) (hx : (x == edge) = false) (w : World) (hC : CurAt w C x y wr) (he : IntAt w Be edge) (hg : FlagAt w Bg g) (hf : FldAt w Bf r c t b o) (hby : IntAt w Bb by') (hne : Bg ≠ C ∧ Bg ≠ Bf ∧ Bg ≠ Bb) :
    Calls Try.prog 64 #[.pointer (some ⟨C, 0, none⟩), .pointer (some ⟨Be, 0, none⟩), .pointer (some ⟨Bg, 0, none⟩), .pointer (some ⟨Bf, 0, none⟩), .pointer (some ⟨Bb, 0, none⟩)] w (fun e w' => e = .returned (.tuple #[]) ∧ Grows ((w.setCell ⟨Bg, 0, none⟩ (.bool false)).setCell ⟨C, 0, none⟩ (.int .i64 (cl (x + by') 0 (r - 1)))) w') := by
  obtain ⟨f1, f2, f3, f4, f5⟩ := okF_iff.1 h
  obtain ⟨k0, k1, k2, k3, k4, k5⟩ := hf
  obtain ⟨n0, n1⟩ := he
  obtain ⟨m0, m1⟩ := hby
  obtain ⟨g0, g1, g2⟩ := hg
  obtain ⟨c0, c1, c2, c3, c4, c5, c6⟩ := hC
  obtain ⟨e1, e2, e3⟩ := hne
  have e4 : C ≠ Bg := fun e => e1 e.symm
  have e5 : Bf ≠ Bg := fun e => e2 e.symm
  have e6 : Bb ≠ Bg := fun e => e3 e.symm
  go_enter Try.func64, Try.ntmps64
  go_wp2_with fail
  refine wp_region_grow_tail 6 (by kernel_rfl) (by kernel_rfl) ?_
  simp only [List.take_succ_cons, List.take_zero, List.drop_succ_cons, List.drop_zero]
  repeat (first | go_big_quiet_step ((fail)) | quiet_step ((fail)))
  refine wpQuiet_nil ?_
  rintro _ ⟨g23, rfl⟩
  go_wp2_with fail
  refine wp_region_grow_tail 9 (by kernel_rfl) (by kernel_rfl) ?_
  simp only [List.take_succ_cons, List.take_zero, List.drop_succ_cons, List.drop_zero]
  repeat (first | go_big_quiet_step ((first | (rename_i xg; go_at_call 59; refine (row_any _ _ _ _ _ _ f1 f2 _).mono ?_; rintro _ _ ⟨rfl, h0, d0, rfl⟩; exact ⟨rfl, Gr.mk (xg.h ++ h0) d0, by simp only [ext_ext, Gr.h_mk, Gr.d_mk, Array.append_assoc]⟩))) | quiet_step ((first | (rename_i xg; go_at_call 59; refine (row_any _ _ _ _ _ _ f1 f2 _).mono ?_; rintro _ _ ⟨rfl, h0, d0, rfl⟩; exact ⟨rfl, Gr.mk (xg.h ++ h0) d0, by simp only [ext_ext, Gr.h_mk, Gr.d_mk, Array.append_assoc]⟩))))
  refine wpQuiet_nil ?_
  rintro _ ⟨g22, rfl⟩
  go_wp2
  go_returns
  refine ⟨rfl, ?_⟩
  first | ((repeat' (first | (with_reducible exact Grows.refl _) | (with_reducible refine Grows.alloc ?_ _) | (with_reducible refine Grows.drew ?_) | (with_reducible refine Grows.ext ?_ _ _))); done) | (refine Grows.setIn ?_ (by simp [go_sem]; omega) _; first | ((repeat' (first | (with_reducible exact Grows.refl _) | (with_reducible refine Grows.alloc ?_ _) | (with_reducible refine Grows.drew ?_) | (with_reducible refine Grows.ext ?_ _ _))); done) | (refine Grows.setIn ?_ g0 _; ((repeat' (first | (with_reducible exact Grows.refl _) | (with_reducible refine Grows.alloc ?_ _) | (with_reducible refine Grows.drew ?_) | (with_reducible refine Grows.ext ?_ _ _))); done)))
end Go.Proofs.Ytepbknpdhiaepaa
