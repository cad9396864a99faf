/-
  Walks: Fit of both.
-/
import Derived.Test.YtepbknpdhiaepaaRows
import Derived.Test.YtepbknpdhiaepaaLt
import Derived.Test.YtepbknpdhiaepaaDefs
import Derived.Test.YtepbknpdhiaepaaW1
import Derived.Test.YtepbknpdhiaepaaW2
import Derived.Test.YtepbknpdhiaepaaW3
import Derived.Test.YtepbknpdhiaepaaW4
import Derived.WalkKit
import Derived.WalkSpells
import Derived.WalkLawsBesides
import Derived.Handy
import Derived.IntWalk
import Derived.Lib.Hide
import Derived.Outline
import Derived.Deep.Light
import Derived.Deep.LoopGhost
import Derived.BigGuardPart
import Derived.BigQuiet
import Derived.Deep.QuietTactic
import Derived.Deep.RegionHeld3
import Derived.Deep.DeepCutAuto
import Derived.Test.YtepbknpdhiaepaaReg
namespace Go.Proofs.Ytepbknpdhiaepaa
open Go.RowKit


theorem fit_no (r c t b x y : Int) (o wr : Bool) (h : okF r c t b = false) (w : World) : Calls Try.prog 37 #[.agg #[.int .i64 r, .int .i64 c, .int .i64 t, .int .i64 b, .bool o], .agg #[.int .i64 x, .int .i64 y, .bool wr]] w (Ret (.tuple #[.agg #[.int .i64 0, .int .i64 0, .bool false], .int .i64 270]) w) := by
  have hc := fun W => check_any r c t b o W
  rw [h] at hc
  have Hc := Lib.hid hc
  clear hc h
  go_enter Try.func37, Try.ntmps37
  go_wp2_with (go_at_call 33; (with_reducible refine (Hc.out _).mono ?_); rintro e w' ⟨rfl, h1, d1, rfl⟩)
  go_returns
  exact ⟨rfl, (by repeat' (first | (with_reducible exact Grows.refl _) | (with_reducible refine Grows.alloc ?_ _) | (with_reducible refine Grows.drew ?_) | (with_reducible refine Grows.ext ?_ _ _)))⟩
set_option maxHeartbeats 4000000 in
theorem fit_true (r c t b x y : Int) (o : Bool) (h : okF r c t b = true) (w : World) : Calls Try.prog 37 #[.agg #[.int .i64 r, .int .i64 c, .int .i64 t, .int .i64 b, .bool o], .agg #[.int .i64 x, .int .i64 y, .bool true]] w (Ret (.tuple #[.agg #[.int .i64 (cl x 0 (r - 1)), .int .i64 (cl y 0 (c - 1)), .bool (y == c - 1)], .int .i64 0]) w) := by
  have hc := fun W => check_any r c t b o W
  rw [h] at hc
  have Hc := Lib.hid hc
  obtain ⟨f1, f2, f3, f4, -⟩ := okF_iff.1 h
  have e1 : IntKind.i64.wrap (c - 1) = c - 1 := IntWalk.i64_in _ (by omega)
  have Hr := Lib.hid fun n W => row_any r c t b n o f1 f2 W
  have Hl := Lib.hid fun n W => col_any r c t b n o f3 f4 W
  clear hc h
  go_enter Try.func37, Try.ntmps37
  go_wp2_with (go_at_call 33; (with_reducible refine (Hc.out _).mono ?_); rintro e w' ⟨rfl, h1, d1, rfl⟩)
  refine wp_region_grow (by kernel_rfl) (by kernel_rfl) ?_
  repeat (first | go_big_quiet_step ((fail)) | quiet_step ((fail)))
  refine wpQuiet_nil ?_
  rintro _ ⟨g11, rfl⟩
  go_wp2_with fail
  refine wp_region_grow_tail 19 (by kernel_rfl) (by kernel_rfl) ?_
  simp only [List.take_succ_cons, List.take_zero, List.drop_succ_cons, List.drop_zero]
  repeat (first | go_big_quiet_step ((first | (rename_i xg; go_at_call 59; (with_reducible refine (Hr.out _ _).mono ?_); rintro _ _ ⟨rfl, h0, d0, rfl⟩; exact ⟨rfl, Gr.mk (xg.h ++ h0) d0, by simp only [ext_ext, Gr.h_mk, Gr.d_mk, Array.append_assoc]⟩) | (rename_i xg; go_at_call 50; (with_reducible refine (Hl.out _ _).mono ?_); rintro _ _ ⟨rfl, h0, d0, rfl⟩; exact ⟨rfl, Gr.mk (xg.h ++ h0) d0, by simp only [ext_ext, Gr.h_mk, Gr.d_mk, Array.append_assoc]⟩))) | quiet_step ((first | (rename_i xg; go_at_call 59; (with_reducible refine (Hr.out _ _).mono ?_); rintro _ _ ⟨rfl, h0, d0, rfl⟩; exact ⟨rfl, Gr.mk (xg.h ++ h0) d0, by simp only [ext_ext, Gr.h_mk, Gr.d_mk, Array.append_assoc]⟩) | (rename_i xg; go_at_call 50; (with_reducible refine (Hl.out _ _).mono ?_); rintro _ _ ⟨rfl, h0, d0, rfl⟩; exact ⟨rfl, Gr.mk (xg.h ++ h0) d0, by simp only [ext_ext, Gr.h_mk, Gr.d_mk, Array.append_assoc]⟩))))
  refine wpQuiet_nil ?_
  rintro _ ⟨g12, rfl⟩
  go_wp2_with fail
  go_returns
  exact ⟨rfl, (by repeat' (first | (with_reducible exact Grows.refl _) | (with_reducible refine Grows.alloc ?_ _) | (with_reducible refine Grows.drew ?_) | (with_reducible refine Grows.ext ?_ _ _)))⟩
set_option maxHeartbeats 4000000 in
theorem fit_false (r c t b x y : Int) (o : Bool) (h : okF r c t b = true) (w : World) : Calls Try.prog 37 #[.agg #[.int .i64 r, .int .i64 c, .int .i64 t, .int .i64 b, .bool o], .agg #[.int .i64 x, .int .i64 y, .bool false]] w (Ret (.tuple #[.agg #[.int .i64 (cl x 0 (r - 1)), .int .i64 (cl y 0 (c - 1)), .bool false], .int .i64 0]) w) := by
  have hc := fun W => check_any r c t b o W
  rw [h] at hc
  have Hc := Lib.hid hc
  obtain ⟨f1, f2, f3, f4, -⟩ := okF_iff.1 h
  have e1 : IntKind.i64.wrap (c - 1) = c - 1 := IntWalk.i64_in _ (by omega)
  have Hr := Lib.hid fun n W => row_any r c t b n o f1 f2 W
  have Hl := Lib.hid fun n W => col_any r c t b n o f3 f4 W
  clear hc h
  go_enter Try.func37, Try.ntmps37
  go_wp2_with (go_at_call 33; (with_reducible refine (Hc.out _).mono ?_); rintro e w' ⟨rfl, h1, d1, rfl⟩)
  refine wp_region_grow (by kernel_rfl) (by kernel_rfl) ?_
  repeat (first | go_big_quiet_step ((fail)) | quiet_step ((fail)))
  refine wpQuiet_nil ?_
  rintro _ ⟨g13, rfl⟩
  go_wp2_with fail
  refine wp_region_grow_tail 19 (by kernel_rfl) (by kernel_rfl) ?_
  simp only [List.take_succ_cons, List.take_zero, List.drop_succ_cons, List.drop_zero]
  repeat (first | go_big_quiet_step ((first | (rename_i xg; go_at_call 59; (with_reducible refine (Hr.out _ _).mono ?_); rintro _ _ ⟨rfl, h0, d0, rfl⟩; exact ⟨rfl, Gr.mk (xg.h ++ h0) d0, by simp only [ext_ext, Gr.h_mk, Gr.d_mk, Array.append_assoc]⟩) | (rename_i xg; go_at_call 50; (with_reducible refine (Hl.out _ _).mono ?_); rintro _ _ ⟨rfl, h0, d0, rfl⟩; exact ⟨rfl, Gr.mk (xg.h ++ h0) d0, by simp only [ext_ext, Gr.h_mk, Gr.d_mk, Array.append_assoc]⟩))) | quiet_step ((first | (rename_i xg; go_at_call 59; (with_reducible refine (Hr.out _ _).mono ?_); rintro _ _ ⟨rfl, h0, d0, rfl⟩; exact ⟨rfl, Gr.mk (xg.h ++ h0) d0, by simp only [ext_ext, Gr.h_mk, Gr.d_mk, Array.append_assoc]⟩) | (rename_i xg; go_at_call 50; (with_reducible refine (Hl.out _ _).mono ?_); rintro _ _ ⟨rfl, h0, d0, rfl⟩; exact ⟨rfl, Gr.mk (xg.h ++ h0) d0, by simp only [ext_ext, Gr.h_mk, Gr.d_mk, Array.append_assoc]⟩))))
  refine wpQuiet_nil ?_
  rintro _ ⟨g14, rfl⟩
  go_wp2_with fail
  go_returns
  exact ⟨rfl, (by repeat' (first | (with_reducible exact Grows.refl _) | (with_reducible refine Grows.alloc ?_ _) | (with_reducible refine Grows.drew ?_) | (with_reducible refine Grows.ext ?_ _ _)))⟩
theorem fit_any (r c t b x y : Int) (o wr : Bool) (h : okF r c t b = true) (w : World) : Calls Try.prog 37 #[.agg #[.int .i64 r, .int .i64 c, .int .i64 t, .int .i64 b, .bool o], .agg #[.int .i64 x, .int .i64 y, .bool wr]] w (Ret (.tuple #[.agg #[.int .i64 (cl x 0 (r - 1)), .int .i64 (cl y 0 (c - 1)), .bool (wr && y == c - 1)], .int .i64 0]) w) := by
  cases wr
  · exact fit_false r c t b x y o h w
  · exact fit_true r c t b x y o h w
set_option maxHeartbeats 4000000 in
theorem rfit_true (r c t b x y : Int) (o : Bool) (h : okF r c t b = true) (w : World) : Calls Try.prog 38 #[.agg #[.int .i64 r, .int .i64 c, .int .i64 t, .int .i64 b, .bool o], .agg #[.int .i64 x, .int .i64 y, .bool true]] w (Ret (.agg #[.int .i64 (rcl x 0 (r - 1)), .int .i64 (rcl y 0 (c - 1)), .bool (y == c - 1)]) w) := by
  obtain ⟨f1, f2, f3, f4, -⟩ := okF_iff.1 h
  have e1 : IntKind.i64.wrap (c - 1) = c - 1 := IntWalk.i64_in _ (by omega)
  have e2 : IntKind.i64.wrap (r - 1) = r - 1 := IntWalk.i64_in _ (by omega)
  clear h
  go_enter Try.func38, Try.ntmps38
  go_wp2_with fail
  refine wp_region_grow_tail 23 (by kernel_rfl) (by kernel_rfl) ?_
  simp only [List.take_succ_cons, List.take_zero, List.drop_succ_cons, List.drop_zero]
  repeat (first | go_big_quiet_step ((first | (rename_i xg; go_at_call 46; (with_reducible refine (rclamp_any _ _ _ _).mono ?_); rintro _ _ ⟨rfl, rfl⟩; exact ⟨rfl, xg, rfl⟩))) | quiet_step ((first | (rename_i xg; go_at_call 46; (with_reducible refine (rclamp_any _ _ _ _).mono ?_); rintro _ _ ⟨rfl, rfl⟩; exact ⟨rfl, xg, rfl⟩))))
  refine wpQuiet_nil ?_
  rintro _ ⟨g15, rfl⟩
  go_wp2_with fail
  go_returns
  exact ⟨rfl, (by repeat' (first | (with_reducible exact Grows.refl _) | (with_reducible refine Grows.alloc ?_ _) | (with_reducible refine Grows.drew ?_) | (with_reducible refine Grows.ext ?_ _ _)))⟩
set_option maxHeartbeats 4000000 in
theorem rfit_false (r c t b x y : Int) (o : Bool) (h : okF r c t b = true) (w : World) : Calls Try.prog 38 #[.agg #[.int .i64 r, .int .i64 c, .int .i64 t, .int .i64 b, .bool o], .agg #[.int .i64 x, .int .i64 y, .bool false]] w (Ret (.agg #[.int .i64 (rcl x 0 (r - 1)), .int .i64 (rcl y 0 (c - 1)), .bool false]) w) := by
  obtain ⟨f1, f2, f3, f4, -⟩ := okF_iff.1 h
  have e1 : IntKind.i64.wrap (c - 1) = c - 1 := IntWalk.i64_in _ (by omega)
  have e2 : IntKind.i64.wrap (r - 1) = r - 1 := IntWalk.i64_in _ (by omega)
  clear h
  go_enter Try.func38, Try.ntmps38
  go_wp2_with fail
  refine wp_region_grow_tail 23 (by kernel_rfl) (by kernel_rfl) ?_
  simp only [List.take_succ_cons, List.take_zero, List.drop_succ_cons, List.drop_zero]
  repeat (first | go_big_quiet_step ((first | (rename_i xg; go_at_call 46; (with_reducible refine (rclamp_any _ _ _ _).mono ?_); rintro _ _ ⟨rfl, rfl⟩; exact ⟨rfl, xg, rfl⟩))) | quiet_step ((first | (rename_i xg; go_at_call 46; (with_reducible refine (rclamp_any _ _ _ _).mono ?_); rintro _ _ ⟨rfl, rfl⟩; exact ⟨rfl, xg, rfl⟩))))
  refine wpQuiet_nil ?_
  rintro _ ⟨g16, rfl⟩
  go_wp2_with fail
  go_returns
  exact ⟨rfl, (by repeat' (first | (with_reducible exact Grows.refl _) | (with_reducible refine Grows.alloc ?_ _) | (with_reducible refine Grows.drew ?_) | (with_reducible refine Grows.ext ?_ _ _)))⟩
theorem rfit_any (r c t b x y : Int) (o wr : Bool) (h : okF r c t b = true) (w : World) : Calls Try.prog 38 #[.agg #[.int .i64 r, .int .i64 c, .int .i64 t, .int .i64 b, .bool o], .agg #[.int .i64 x, .int .i64 y, .bool wr]] w (Ret (.agg #[.int .i64 (cl x 0 (r - 1)), .int .i64 (cl y 0 (c - 1)), .bool (wr && y == c - 1)]) w) := by
  obtain ⟨f1, f2, f3, f4, -⟩ := okF_iff.1 h
  rw [cl_rcl (show 0 ≤ r - 1 by omega), cl_rcl (show 0 ≤ c - 1 by omega)]
  cases wr
  · exact rfit_false r c t b x y o h w
  · exact rfit_true r c t b x y o h w
end Go.Proofs.Ytepbknpdhiaepaa
