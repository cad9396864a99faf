/-
  Walk: the law's examples.
-/
import Derived.Test.YtepbknpdhiaepaaRows
import Derived.Test.YtepbknpdhiaepaaLt
import Derived.Test.YtepbknpdhiaepaaDefs
import Derived.Test.YtepbknpdhiaepaaW1
import Derived.Test.YtepbknpdhiaepaaW2
import Derived.Test.YtepbknpdhiaepaaW3
import Derived.Test.YtepbknpdhiaepaaW5
import Derived.Test.YtepbknpdhiaepaaW6
import Derived.Test.YtepbknpdhiaepaaW7
import Derived.Test.YtepbknpdhiaepaaW8
import Derived.Test.YtepbknpdhiaepaaW9
import Derived.Test.YtepbknpdhiaepaaW10
import Derived.Test.YtepbknpdhiaepaaW11
import Derived.Test.YtepbknpdhiaepaaW14
import Derived.WalkKit
import Derived.WalkSpells
import Derived.WalkLawsBesides
import Derived.Handy
import Derived.Lib.Hide
import Derived.Deep.Light
import Derived.Deep.LoopGhost
import Derived.BigGuardPart
import Derived.BigQuiet
import Derived.Deep.QuietTactic
import Derived.Deep.RegionHeld3
import Derived.Test.YtepbknpdhiaepaaReg
import Derived.Test.YtepbknpdhiaepaaReg3
namespace Go.Proofs.Ytepbknpdhiaepaa
open Go.RowKit


set_option maxHeartbeats 1000000 in
theorem goto_ok (r c t b n m : Int) (o : Bool) (h : okF r c t b = true) (w : World) : Calls Try.prog 25 #[.agg #[.int .i64 r, .int .i64 c, .int .i64 t, .int .i64 b, .bool o], .int .i64 n, .int .i64 m] w (Ret (.tuple #[.agg #[.int .i64 (gRow r t b n o), .int .i64 (gCol c m), .bool false], .int .i64 0]) w) := goto_yes r c t b n m o h w
set_option maxHeartbeats 1000000 in
theorem home_any (r c t b : Int) (o : Bool) (h : okF r c t b = true) (w : World) : Calls Try.prog 26 #[.agg #[.int .i64 r, .int .i64 c, .int .i64 t, .int .i64 b, .bool o]] w (Ret (.tuple #[.agg #[.int .i64 (gRow r t b 1 o), .int .i64 (gCol c 1), .bool false], .int .i64 0]) w) := by
  go_enter Try.func26, Try.ntmps26
  go_wp2_with (go_at_call 25; refine (goto_yes _ _ _ _ _ _ _ h _).mono ?_; rintro e w' ⟨rfl, h0, d0, rfl⟩)
  go_returns
  exact ⟨rfl, (by repeat' (first | (with_reducible exact Grows.refl _) | (with_reducible refine Grows.alloc ?_ _) | (with_reducible refine Grows.drew ?_) | (with_reducible refine Grows.ext ?_ _ _)))⟩
set_option maxRecDepth 100000 in
set_option maxHeartbeats 8000000 in
theorem works_true (w : World) : Calls Try.prog 22 #[] w (Ret (.bool true) w) := by
  have k0 : okF 10 20 2 5 = true := by decide
  have k1 : atB 10 20 5 1 false = true := by decide
  have k2 : atB 10 20 9 1 false = true := by decide
  have k3 : atB 10 20 2 1 false = true := by decide
  have k4 : atB 10 20 0 1 false = true := by decide
  have k5 : mgB 10 5 5 = false := by decide
  go_enter Try.func22, Try.ntmps22
  go_wp2_with (first | (go_at_call 25; refine (goto_yes _ _ _ _ _ _ _ (by decide) _).mono ?_; rintro e w' ⟨rfl, h1, d1, rfl⟩) | (go_at_call 26; refine (home_any _ _ _ _ _ (by decide) _).mono ?_; rintro e w' ⟨rfl, h2, d2, rfl⟩) | (go_at_call 27; refine (is_yes _ _ _ _ _ _ (by decide) _).mono ?_; rintro e w' ⟨rfl, h3, d3, rfl⟩))
  refine wp_region_grow (by kernel_rfl) (by kernel_rfl) ?_
  repeat (first | go_big_quiet_step ((first | (rename_i xg; go_at_call 43; refine (lat_any _ _ _).mono ?_; rintro _ _ ⟨rfl, h0, d0, rfl⟩; exact ⟨rfl, Gr.mk (xg.h ++ h0) d0, by simp only [ext_ext, Gr.h_mk, Gr.d_mk, Array.append_assoc]⟩) | (rename_i xg; go_at_call 55; refine (moved_yes _ _ _ _ _ _ _ _ _ _ _ _ (by decide) _).mono ?_; rintro _ _ ⟨rfl, h0, d0, rfl⟩; exact ⟨rfl, Gr.mk (xg.h ++ h0) d0, by simp only [ext_ext, Gr.h_mk, Gr.d_mk, Array.append_assoc]⟩))) | quiet_step ((first | (rename_i xg; go_at_call 43; refine (lat_any _ _ _).mono ?_; rintro _ _ ⟨rfl, h0, d0, rfl⟩; exact ⟨rfl, Gr.mk (xg.h ++ h0) d0, by simp only [ext_ext, Gr.h_mk, Gr.d_mk, Array.append_assoc]⟩) | (rename_i xg; go_at_call 55; refine (moved_yes _ _ _ _ _ _ _ _ _ _ _ _ (by decide) _).mono ?_; rintro _ _ ⟨rfl, h0, d0, rfl⟩; exact ⟨rfl, Gr.mk (xg.h ++ h0) d0, by simp only [ext_ext, Gr.h_mk, Gr.d_mk, Array.append_assoc]⟩))))
  refine wpQuiet_nil ?_
  rintro _ ⟨g66, rfl⟩
  go_wp2_with fail
  try simp only [ext_ext]
  first | (refine wp_region_fill_ext 7 8 (.cells #[.int .i64 0, .int .i64 0, .bool false] 27) (O' := ?ob67a) (by kernel_rfl) (by kernel_rfl) rfl rfl rfl rfl rfl (fun _ _ => by simp [go_sem]) ?_) | (refine wp_region_fill 7 8 (.cells #[.int .i64 0, .int .i64 0, .bool false] 27) (O' := ?ob67b) (by kernel_rfl) (by kernel_rfl) rfl rfl rfl rfl rfl (fun _ _ => by simp [go_sem]) ?_)
  rotate_left
  repeat (first | (refine xWalk_make rfl ?_) | (refine xWalk_op (by decide) (by decide) (fun K hK => ?_); go_simp; (try go_ints); first | (refine hK _ ?_; clear hK K) | (apply Exists.intro; refine ⟨fun xg => ?_, hK _ ?_⟩; (first | (go_at_call 43; exact lat_any _ _ _) | (go_at_call 20; exact index_any _ _ _ _ _ _ _ _ _)); clear hK K)) | (refine xWalk_fill (by decide) rfl ?_ ?_; (intro xf yf; simp [go_sem, newPtr]; rfl)))
  refine xWalk_nil ?_
  intro x67 y67
  simp only [newPtr, ext_size, World.size_alloc]
  simp only [Act.put, List.setIfInBounds_toArray, List.set_cons_zero, List.set_cons_succ]
  go_wp2_with fail
  try simp only [ext_ext]
  first | (refine wp_region_fill_ext 7 8 (.cells #[.int .i64 0, .int .i64 0, .bool false] 27) (O' := ?ob68a) (by kernel_rfl) (by kernel_rfl) rfl rfl rfl rfl rfl (fun _ _ => by simp [go_sem]) ?_) | (refine wp_region_fill 7 8 (.cells #[.int .i64 0, .int .i64 0, .bool false] 27) (O' := ?ob68b) (by kernel_rfl) (by kernel_rfl) rfl rfl rfl rfl rfl (fun _ _ => by simp [go_sem]) ?_)
  rotate_left
  repeat (first | (refine xWalk_make rfl ?_) | (refine xWalk_op (by decide) (by decide) (fun K hK => ?_); go_simp; (try go_ints); first | (refine hK _ ?_; clear hK K) | (apply Exists.intro; refine ⟨fun xg => ?_, hK _ ?_⟩; (first | (go_at_call 43; exact lat_any _ _ _) | (go_at_call 20; exact index_any _ _ _ _ _ _ _ _ _)); clear hK K)) | (refine xWalk_fill (by decide) rfl ?_ ?_; (intro xf yf; simp [go_sem, newPtr]; rfl)))
  refine xWalk_nil ?_
  intro x68 y68
  simp only [newPtr, ext_size, World.size_alloc]
  simp only [Act.put, List.setIfInBounds_toArray, List.set_cons_zero, List.set_cons_succ]
  go_wp2_with fail
  try simp only [ext_ext]
  first | (refine wp_region_fill_ext 7 8 (.cells #[.int .i64 0, .int .i64 0, .bool false] 27) (O' := ?ob69a) (by kernel_rfl) (by kernel_rfl) rfl rfl rfl rfl rfl (fun _ _ => by simp [go_sem]) ?_) | (refine wp_region_fill 7 8 (.cells #[.int .i64 0, .int .i64 0, .bool false] 27) (O' := ?ob69b) (by kernel_rfl) (by kernel_rfl) rfl rfl rfl rfl rfl (fun _ _ => by simp [go_sem]) ?_)
  rotate_left
  repeat (first | (refine xWalk_make rfl ?_) | (refine xWalk_op (by decide) (by decide) (fun K hK => ?_); go_simp; (try go_ints); first | (refine hK _ ?_; clear hK K) | (apply Exists.intro; refine ⟨fun xg => ?_, hK _ ?_⟩; (first | (go_at_call 43; exact lat_any _ _ _) | (go_at_call 21; exact reverse_any _ _ _ _ _ _ _ _ _)); clear hK K)) | (refine xWalk_fill (by decide) rfl ?_ ?_; (intro xf yf; simp [go_sem, newPtr]; rfl)))
  refine xWalk_nil ?_
  intro x69 y69
  simp only [newPtr, ext_size, World.size_alloc]
  simp only [Act.put, List.setIfInBounds_toArray, List.set_cons_zero, List.set_cons_succ]
  go_wp2_with fail
  try simp only [ext_ext]
  first | (refine wp_region_fill_ext 7 8 (.cells #[.int .i64 0, .int .i64 0, .bool false] 27) (O' := ?ob70a) (by kernel_rfl) (by kernel_rfl) rfl rfl rfl rfl rfl (fun _ _ => by simp [go_sem]) ?_) | (refine wp_region_fill 7 8 (.cells #[.int .i64 0, .int .i64 0, .bool false] 27) (O' := ?ob70b) (by kernel_rfl) (by kernel_rfl) rfl rfl rfl rfl rfl (fun _ _ => by simp [go_sem]) ?_)
  rotate_left
  repeat (first | (refine xWalk_make rfl ?_) | (refine xWalk_op (by decide) (by decide) (fun K hK => ?_); go_simp; (try go_ints); first | (refine hK _ ?_; clear hK K) | (apply Exists.intro; refine ⟨fun xg => ?_, hK _ ?_⟩; (first | (go_at_call 43; exact lat_any _ _ _) | (go_at_call 21; exact reverse_any _ _ _ _ _ _ _ _ _)); clear hK K)) | (refine xWalk_fill (by decide) rfl ?_ ?_; (intro xf yf; simp [go_sem, newPtr]; rfl)))
  refine xWalk_nil ?_
  intro x70 y70
  simp only [newPtr, ext_size, World.size_alloc]
  simp only [Act.put, List.setIfInBounds_toArray, List.set_cons_zero, List.set_cons_succ]
  go_wp2_with (first | (go_at_call 27; refine (is_yes _ _ _ _ _ _ (by decide) _).mono ?_; rintro e w' ⟨rfl, h3, d3, rfl⟩) | (go_at_call 23; refine (margins_any _ _ _ ⟨by omega, by omega⟩ ⟨by omega, by omega⟩ ⟨by omega, by omega⟩ _).mono ?_; rintro e w' ⟨rfl, rfl⟩) | (go_at_call 44; refine (lmargins_yes _ _ _ _ _ ⟨by omega, by omega⟩ ⟨by omega, by omega⟩ ⟨by omega, by omega⟩ (by decide) _).mono ?_; rintro e w' ⟨rfl, h4, d4, rfl⟩))
  go_returns
  exact ⟨rfl, (by repeat' (first | (with_reducible exact Grows.refl _) | (with_reducible refine Grows.alloc ?_ _) | (with_reducible refine Grows.drew ?_) | (with_reducible refine Grows.ext ?_ _ _)))⟩
end Go.Proofs.Ytepbknpdhiaepaa
