/-
  Walks: Goto and Home of the program.
-/
import Derived.Test.YtepbknpdhiaepaaRows
import Derived.Test.YtepbknpdhiaepaaLt
import Derived.Test.YtepbknpdhiaepaaDefs
import Derived.Test.YtepbknpdhiaepaaW1
import Derived.Test.YtepbknpdhiaepaaW2
import Derived.WalkKit
import Derived.WalkSpells
import Derived.WalkLawsBesides
import Derived.Handy
import Derived.Lib.Hide
import Derived.Deep.Light
import Derived.Deep.LoopGhost
import Derived.BigGuardPart
import Derived.BigQuiet
import Derived.Deep.QuietTactic
import Derived.Deep.RegionHeld3
import Derived.Test.YtepbknpdhiaepaaReg
import Derived.Test.YtepbknpdhiaepaaReg3
namespace Go.Proofs.Ytepbknpdhiaepaa
open Go.RowKit


set_option maxHeartbeats 1000000 in
theorem goto_no (r c t b n m : Int) (o : Bool) (h : okF r c t b = false) (w : World) : Calls Try.prog 25 #[.agg #[.int .i64 r, .int .i64 c, .int .i64 t, .int .i64 b, .bool o], .int .i64 n, .int .i64 m] w (Ret (.tuple #[.agg #[.int .i64 0, .int .i64 0, .bool false], .int .i64 270]) w) := by
  go_enter Try.func25, Try.ntmps25
  go_wp2_with (first | (go_at_call 33; refine (check_any _ _ _ _ _ _).mono ?_; rintro e w' ⟨rfl, h11, d11, rfl⟩))
  go_returns
  exact ⟨rfl, (by repeat' (first | (with_reducible exact Grows.refl _) | (with_reducible refine Grows.alloc ?_ _) | (with_reducible refine Grows.drew ?_) | (with_reducible refine Grows.ext ?_ _ _)))⟩
set_option maxHeartbeats 2000000 in
theorem goto_yes (r c t b n m : Int) (o : Bool) (h : okF r c t b = true) (w : World) : Calls Try.prog 25 #[.agg #[.int .i64 r, .int .i64 c, .int .i64 t, .int .i64 b, .bool o], .int .i64 n, .int .i64 m] w (Ret (.tuple #[.agg #[.int .i64 (gRow r t b n o), .int .i64 (gCol c m), .bool false], .int .i64 0]) w) := by
  obtain ⟨f1, f2, f3, f4, f5⟩ := okF_iff.1 h
  have hc1 := cl_bd n 1 r f1
  have hc2 := cl_bd m 1 c (by omega)
  cases o
  all_goals
    simp only [gRow, gCol, if_true, if_false, Bool.false_eq_true, Int.add_zero]
    go_enter Try.func25, Try.ntmps25
    go_wp2_with (first | (go_at_call 33; refine (check_any _ _ _ _ _ _).mono ?_; rintro e w' ⟨rfl, h12, d12, rfl⟩))
    refine wp_region_grow (by kernel_rfl) (by kernel_rfl) ?_
    repeat (first | go_big_quiet_step ((fail)) | quiet_step ((fail)))
    refine wpQuiet_nil ?_
    rintro _ ⟨g13, rfl⟩
    go_wp2
  · refine wp_region_grow_tail 16 (by kernel_rfl) (by kernel_rfl) ?_
    simp only [List.take_succ_cons, List.take_zero, List.drop_succ_cons, List.drop_zero]
    repeat (first | go_big_quiet_step ((first | (rename_i xg; go_at_call 56; refine (clamp_any _ _ _ _).mono ?_; rintro _ _ ⟨rfl, rfl⟩; exact ⟨rfl, xg, rfl⟩))) | quiet_step ((first | (rename_i xg; go_at_call 56; refine (clamp_any _ _ _ _).mono ?_; rintro _ _ ⟨rfl, rfl⟩; exact ⟨rfl, xg, rfl⟩))))
    refine wpQuiet_nil ?_
    rintro _ ⟨g14, rfl⟩
    go_wp2
    go_returns
    exact ⟨rfl, (by repeat' (first | (with_reducible exact Grows.refl _) | (with_reducible refine Grows.alloc ?_ _) | (with_reducible refine Grows.drew ?_) | (with_reducible refine Grows.ext ?_ _ _)))⟩
  · refine wp_region_grow (by kernel_rfl) (by kernel_rfl) ?_
    repeat (first | go_big_quiet_step ((fail)) | quiet_step ((fail)))
    refine wpQuiet_nil ?_
    rintro _ ⟨g15, rfl⟩
    go_wp2
    refine wp_region_grow_tail 16 (by kernel_rfl) (by kernel_rfl) ?_
    simp only [List.take_succ_cons, List.take_zero, List.drop_succ_cons, List.drop_zero]
    repeat (first | go_big_quiet_step ((first | (rename_i xg; go_at_call 56; refine (clamp_any _ _ _ _).mono ?_; rintro _ _ ⟨rfl, rfl⟩; exact ⟨rfl, xg, rfl⟩))) | quiet_step ((first | (rename_i xg; go_at_call 56; refine (clamp_any _ _ _ _).mono ?_; rintro _ _ ⟨rfl, rfl⟩; exact ⟨rfl, xg, rfl⟩))))
    refine wpQuiet_nil ?_
    rintro _ ⟨g16, rfl⟩
    go_wp2
    go_returns
    exact ⟨rfl, (by repeat' (first | (with_reducible exact Grows.refl _) | (with_reducible refine Grows.alloc ?_ _) | (with_reducible refine Grows.drew ?_) | (with_reducible refine Grows.ext ?_ _ _)))⟩
end Go.Proofs.Ytepbknpdhiaepaa
