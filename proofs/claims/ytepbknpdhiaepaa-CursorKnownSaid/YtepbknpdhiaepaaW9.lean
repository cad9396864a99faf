/-
  Walks: the ways of Move.
-/
import Derived.Test.YtepbknpdhiaepaaRows
import Derived.Test.YtepbknpdhiaepaaLt
import Derived.Test.YtepbknpdhiaepaaDefs
import Derived.Test.YtepbknpdhiaepaaW1
import Derived.Test.YtepbknpdhiaepaaW2
import Derived.Test.YtepbknpdhiaepaaW3
import Derived.Test.YtepbknpdhiaepaaW5
import Derived.Test.YtepbknpdhiaepaaW6
import Derived.Test.YtepbknpdhiaepaaW7
import Derived.Test.YtepbknpdhiaepaaW8
import Derived.WalkKit
import Derived.WalkSpells
import Derived.WalkLawsBesides
import Derived.Handy
import Derived.Lib.Hide
import Derived.Deep.Light
import Derived.Deep.LoopGhost
import Derived.BigGuardPart
import Derived.BigQuiet
import Derived.Deep.QuietTactic
import Derived.Deep.RegionHeld3
import Derived.Test.YtepbknpdhiaepaaReg
import Derived.Test.YtepbknpdhiaepaaReg3
namespace Go.Proofs.Ytepbknpdhiaepaa
open Go.RowKit


set_option maxHeartbeats 1000000 in
theorem up_any (C : Nat) (r c t b x y n : Int) (o wr : Bool) (h : okF r c t b = true) (h2 : atB r c x y wr = true) (hn : 0 ≤ n ∧ n ≤ 200) (w : World) (hC : CurAt w C x y false) :
    Calls Try.prog 47 #[.agg #[.int .i64 r, .int .i64 c, .int .i64 t, .int .i64 b, .bool o], .pointer (some ⟨C, 0, none⟩), .int .i64 n] w (fun e w' => e = .returned (.tuple #[]) ∧ Grows (w.setCell ⟨C, 0, none⟩ (.int .i64 (upRow t x n))) w') := by
  obtain ⟨f1, f2, f3, f4, f5⟩ := okF_iff.1 h
  obtain ⟨x0, x1, y0, y1, -⟩ := atB_iff.1 h2
  obtain ⟨c0, c1, c2, c3, c4, c5, c6⟩ := hC
  cases hd : decide (t ≤ x)
  all_goals
    go_enter Try.func47, Try.ntmps47
    go_wp2_with fail
    refine wp_region_grow (by kernel_rfl) (by kernel_rfl) ?_
    repeat (first | go_big_quiet_step ((fail)) | quiet_step ((fail)))
    refine wpQuiet_nil ?_
    rintro _ ⟨g26, rfl⟩
    go_wp2
    all_goals
      go_returns
      refine ⟨rfl, ?_⟩
      apply grows_val
      case g => ((repeat' (first | (with_reducible exact Grows.refl _) | (with_reducible refine Grows.alloc ?_ _) | (with_reducible refine Grows.drew ?_) | (with_reducible refine Grows.ext ?_ _ _))); done)
      case h =>
        go_light
        simp only [upRow, hd, if_true, if_false, Bool.false_eq_true]
        omega

set_option maxHeartbeats 1000000 in
theorem down_any (C : Nat) (r c t b x y n : Int) (o wr : Bool) (h : okF r c t b = true) (h2 : atB r c x y wr = true) (hn : 0 ≤ n ∧ n ≤ 200) (w : World) (hC : CurAt w C x y false) :
    Calls Try.prog 48 #[.agg #[.int .i64 r, .int .i64 c, .int .i64 t, .int .i64 b, .bool o], .pointer (some ⟨C, 0, none⟩), .int .i64 n] w (fun e w' => e = .returned (.tuple #[]) ∧ Grows (w.setCell ⟨C, 0, none⟩ (.int .i64 (downRow r b x n))) w') := by
  obtain ⟨f1, f2, f3, f4, f5⟩ := okF_iff.1 h
  obtain ⟨x0, x1, y0, y1, -⟩ := atB_iff.1 h2
  obtain ⟨c0, c1, c2, c3, c4, c5, c6⟩ := hC
  cases hd : decide (x ≤ b)
  all_goals
    go_enter Try.func48, Try.ntmps48
    go_wp2_with fail
    refine wp_region_grow (by kernel_rfl) (by kernel_rfl) ?_
    repeat (first | go_big_quiet_step ((fail)) | quiet_step ((fail)))
    refine wpQuiet_nil ?_
    rintro _ ⟨g27, rfl⟩
    go_wp2
    all_goals
      go_returns
      refine ⟨rfl, ?_⟩
      apply grows_val
      case g => ((repeat' (first | (with_reducible exact Grows.refl _) | (with_reducible refine Grows.alloc ?_ _) | (with_reducible refine Grows.drew ?_) | (with_reducible refine Grows.ext ?_ _ _))); done)
      case h =>
        go_light
        simp only [downRow, hd, if_true, if_false, Bool.false_eq_true]
        omega

set_option maxHeartbeats 1000000 in
theorem mright_any (C B : Nat) (r c t b x y n : Int) (o wr : Bool) (h : okF r c t b = true) (h2 : atB r c x y wr = true) (hn : 0 ≤ n ∧ n ≤ 200) (w : World) (hC : CurAt w C x y false) (hB : FldAt w B r c t b o) :
    Calls Try.prog 49 #[.pointer (some ⟨C, 0, none⟩), .int .i64 n, .pointer (some ⟨B, 0, none⟩)] w (fun e w' => e = .returned (.tuple #[]) ∧ Grows (w.setCell ⟨C, 1, none⟩ (.int .i64 (cl (y + n) 0 (c - 1)))) w') := by
  obtain ⟨f1, f2, f3, f4, f5⟩ := okF_iff.1 h
  obtain ⟨x0, x1, y0, y1, -⟩ := atB_iff.1 h2
  obtain ⟨c0, c1, c2, c3, c4, c5, c6⟩ := hC
  obtain ⟨k0, k1, k2, k3, k4, k5⟩ := hB
  go_enter Try.func49, Try.ntmps49
  refine wp_region_grow_tail 9 (by kernel_rfl) (by kernel_rfl) ?_
  simp only [List.take_succ_cons, List.take_zero, List.drop_succ_cons, List.drop_zero]
  repeat (first | go_big_quiet_step ((first | (rename_i xg; go_at_call 50; refine (col_any _ _ _ _ _ _ f3 f4 _).mono ?_; rintro _ _ ⟨rfl, h0, d0, rfl⟩; exact ⟨rfl, Gr.mk (xg.h ++ h0) d0, by simp only [ext_ext, Gr.h_mk, Gr.d_mk]⟩))) | quiet_step ((first | (rename_i xg; go_at_call 50; refine (col_any _ _ _ _ _ _ f3 f4 _).mono ?_; rintro _ _ ⟨rfl, h0, d0, rfl⟩; exact ⟨rfl, Gr.mk (xg.h ++ h0) d0, by simp only [ext_ext, Gr.h_mk, Gr.d_mk, Array.append_assoc]⟩))))
  refine wpQuiet_nil ?_
  rintro _ ⟨g28, rfl⟩
  go_wp2
  go_returns
  refine ⟨rfl, ?_⟩
  first | ((repeat' (first | (with_reducible exact Grows.refl _) | (with_reducible refine Grows.alloc ?_ _) | (with_reducible refine Grows.drew ?_) | (with_reducible refine Grows.ext ?_ _ _))); done) | (refine Grows.setIn ?_ c0 _; ((repeat' (first | (with_reducible exact Grows.refl _) | (with_reducible refine Grows.alloc ?_ _) | (with_reducible refine Grows.drew ?_) | (with_reducible refine Grows.ext ?_ _ _))); done))

set_option maxHeartbeats 1000000 in
theorem mleft_any (C B : Nat) (r c t b x y n : Int) (o wr : Bool) (h : okF r c t b = true) (h2 : atB r c x y wr = true) (hn : 0 ≤ n ∧ n ≤ 200) (w : World) (hC : CurAt w C x y false) (hB : FldAt w B r c t b o) :
    Calls Try.prog 51 #[.pointer (some ⟨C, 0, none⟩), .int .i64 n, .pointer (some ⟨B, 0, none⟩)] w (fun e w' => e = .returned (.tuple #[]) ∧ Grows (w.setCell ⟨C, 1, none⟩ (.int .i64 (cl (y - n) 0 (c - 1)))) w') := by
  obtain ⟨f1, f2, f3, f4, f5⟩ := okF_iff.1 h
  obtain ⟨x0, x1, y0, y1, -⟩ := atB_iff.1 h2
  obtain ⟨c0, c1, c2, c3, c4, c5, c6⟩ := hC
  obtain ⟨k0, k1, k2, k3, k4, k5⟩ := hB
  go_enter Try.func51, Try.ntmps51
  refine wp_region_grow_tail 9 (by kernel_rfl) (by kernel_rfl) ?_
  simp only [List.take_succ_cons, List.take_zero, List.drop_succ_cons, List.drop_zero]
  repeat (first | go_big_quiet_step ((first | (rename_i xg; go_at_call 50; refine (col_any _ _ _ _ _ _ f3 f4 _).mono ?_; rintro _ _ ⟨rfl, h0, d0, rfl⟩; exact ⟨rfl, Gr.mk (xg.h ++ h0) d0, by simp only [ext_ext, Gr.h_mk, Gr.d_mk]⟩))) | quiet_step ((first | (rename_i xg; go_at_call 50; refine (col_any _ _ _ _ _ _ f3 f4 _).mono ?_; rintro _ _ ⟨rfl, h0, d0, rfl⟩; exact ⟨rfl, Gr.mk (xg.h ++ h0) d0, by simp only [ext_ext, Gr.h_mk, Gr.d_mk, Array.append_assoc]⟩))))
  refine wpQuiet_nil ?_
  rintro _ ⟨g29, rfl⟩
  go_wp2
  go_returns
  refine ⟨rfl, ?_⟩
  first | ((repeat' (first | (with_reducible exact Grows.refl _) | (with_reducible refine Grows.alloc ?_ _) | (with_reducible refine Grows.drew ?_) | (with_reducible refine Grows.ext ?_ _ _))); done) | (refine Grows.setIn ?_ c0 _; ((repeat' (first | (with_reducible exact Grows.refl _) | (with_reducible refine Grows.alloc ?_ _) | (with_reducible refine Grows.drew ?_) | (with_reducible refine Grows.ext ?_ _ _))); done))
end Go.Proofs.Ytepbknpdhiaepaa
