/-
  Walk: a draft's cursor.
-/
import Derived.Test.YtepbknpdhiaepaaRows
import Derived.Test.YtepbknpdhiaepaaLt
import Derived.Test.YtepbknpdhiaepaaDefs
import Derived.Test.YtepbknpdhiaepaaW1
import Derived.Test.YtepbknpdhiaepaaW13
import Derived.WalkKit
import Derived.WalkSpells
import Derived.WalkLawsBesides
import Derived.Handy
import Derived.Lib.Hide
import Derived.Deep.Light
import Derived.Deep.LoopGhost
import Derived.BigGuardPart
import Derived.BigQuiet
import Derived.Deep.QuietTactic
import Derived.Deep.RegionHeld3
import Derived.Test.YtepbknpdhiaepaaReg
import Derived.Test.YtepbknpdhiaepaaReg3
namespace Go.Proofs.Ytepbknpdhiaepaa
open Go.RowKit


set_option maxHeartbeats 1000000 in
theorem dcursor_tftt (rows cols top long row col : Int) (o : Bool) (h1 : 0 ≤ rows ∧ rows < 256) (h2 : 0 ≤ cols ∧ cols < 256) (h3 : 0 ≤ top ∧ top < 256) (h4 : 0 ≤ long ∧ long < 256) (h5 : 0 ≤ row ∧ row < 256) (h6 : 0 ≤ col ∧ col < 256) (w : World) (k8 : (row % 8 == 1) = true) (k4 : (row % 4 == 3) = false) (kc : (col % 4 == 3) = true) : Calls Try.prog 14 #[.agg #[.int .u8 rows, .int .u8 cols, .int .u8 top, .int .u8 long, .int .u8 row, .int .u8 col, .bool o, .bool true]] w (Ret (.agg #[.int .i64 (dT rows top long), .int .i64 (dC cols - 1), .bool (true)]) w) := by
  obtain ⟨hT, hTB, hB, -⟩ := dTop_bd (top := top) h1.1 h3.1 h4.1
  have hr : 1 ≤ dR rows ∧ dR rows ≤ 40 := by unfold dR; omega
  have hc : 2 ≤ dC cols ∧ dC cols ≤ 80 := by unfold dC; omega
  have hf := fun W => dfield_any rows cols top long row col o true h1 h2 h3 h4 h5 h6 W
  generalize dR rows = r at *
  generalize dC cols = c at *
  generalize dT rows top long = t at *
  generalize dB rows top long = b at *
  have q3 := Int.emod_nonneg row (show r ≠ 0 by omega)
  have q4 := Int.emod_lt_of_pos row (show 0 < r by omega)
  have q5 := Int.emod_nonneg col (show c ≠ 0 by omega)
  have q6 := Int.emod_lt_of_pos col (show 0 < c by omega)
  obtain ⟨h5, h5'⟩ := h5
  obtain ⟨h6, h6'⟩ := h6
  have nr : ¬ r = 0 := by omega
  have nc : ¬ c = 0 := by omega
  have Hf := Lib.hid hf
  clear hf h1 h2 h3 h4
  go_enter Try.func14, Try.ntmps14
  go_wp2_with (go_at_call 12; refine (Hf.out _).mono ?_; rintro e w' ⟨rfl, h0, d0, rfl⟩)
  try simp only [ext_ext]
  first | (refine wp_region_fill_ext 13 14 (.cells #[.int .i64 0, .int .i64 0, .bool false] 27) (O' := ?ob54a) (by kernel_rfl) (by kernel_rfl) rfl rfl rfl rfl rfl (fun _ _ => by simp [go_sem]) ?_) | (refine wp_region_fill 13 14 (.cells #[.int .i64 0, .int .i64 0, .bool false] 27) (O' := ?ob54b) (by kernel_rfl) (by kernel_rfl) rfl rfl rfl rfl rfl (fun _ _ => by simp [go_sem]) ?_)
  rotate_left
  repeat (first | (refine xWalk_make rfl ?_) | (refine xWalk_op (by decide) (by decide) (fun K hK => ?_); go_simp; (try go_ints); first | (refine hK _ ?_; clear hK K) | (apply Exists.intro; refine ⟨fun xg => ?_, hK _ ?_⟩; (fail); clear hK K)) | (refine xWalk_fill (by decide) rfl ?_ ?_; (intro xf yf; simp [go_sem, newPtr]; rfl)))
  refine xWalk_nil ?_
  intro x54 y54
  simp only [newPtr, ext_size, World.size_alloc]
  simp only [Act.put, List.setIfInBounds_toArray, List.set_cons_zero, List.set_cons_succ]
  go_wp2
  go_returns
  exact ⟨rfl, (by repeat' (first | (with_reducible exact Grows.refl _) | (with_reducible refine Grows.alloc ?_ _) | (with_reducible refine Grows.drew ?_) | (with_reducible refine Grows.ext ?_ _ _)))⟩

set_option maxHeartbeats 1000000 in
theorem dcursor_tftf (rows cols top long row col : Int) (o : Bool) (h1 : 0 ≤ rows ∧ rows < 256) (h2 : 0 ≤ cols ∧ cols < 256) (h3 : 0 ≤ top ∧ top < 256) (h4 : 0 ≤ long ∧ long < 256) (h5 : 0 ≤ row ∧ row < 256) (h6 : 0 ≤ col ∧ col < 256) (w : World) (k8 : (row % 8 == 1) = true) (k4 : (row % 4 == 3) = false) (kc : (col % 4 == 3) = true) : Calls Try.prog 14 #[.agg #[.int .u8 rows, .int .u8 cols, .int .u8 top, .int .u8 long, .int .u8 row, .int .u8 col, .bool o, .bool false]] w (Ret (.agg #[.int .i64 (dT rows top long), .int .i64 (dC cols - 1), .bool (false)]) w) := by
  obtain ⟨hT, hTB, hB, -⟩ := dTop_bd (top := top) h1.1 h3.1 h4.1
  have hr : 1 ≤ dR rows ∧ dR rows ≤ 40 := by unfold dR; omega
  have hc : 2 ≤ dC cols ∧ dC cols ≤ 80 := by unfold dC; omega
  have hf := fun W => dfield_any rows cols top long row col o false h1 h2 h3 h4 h5 h6 W
  generalize dR rows = r at *
  generalize dC cols = c at *
  generalize dT rows top long = t at *
  generalize dB rows top long = b at *
  have q3 := Int.emod_nonneg row (show r ≠ 0 by omega)
  have q4 := Int.emod_lt_of_pos row (show 0 < r by omega)
  have q5 := Int.emod_nonneg col (show c ≠ 0 by omega)
  have q6 := Int.emod_lt_of_pos col (show 0 < c by omega)
  obtain ⟨h5, h5'⟩ := h5
  obtain ⟨h6, h6'⟩ := h6
  have nr : ¬ r = 0 := by omega
  have nc : ¬ c = 0 := by omega
  have Hf := Lib.hid hf
  clear hf h1 h2 h3 h4
  go_enter Try.func14, Try.ntmps14
  go_wp2_with (go_at_call 12; refine (Hf.out _).mono ?_; rintro e w' ⟨rfl, h0, d0, rfl⟩)
  try simp only [ext_ext]
  first | (refine wp_region_fill_ext 13 14 (.cells #[.int .i64 0, .int .i64 0, .bool false] 27) (O' := ?ob55a) (by kernel_rfl) (by kernel_rfl) rfl rfl rfl rfl rfl (fun _ _ => by simp [go_sem]) ?_) | (refine wp_region_fill 13 14 (.cells #[.int .i64 0, .int .i64 0, .bool false] 27) (O' := ?ob55b) (by kernel_rfl) (by kernel_rfl) rfl rfl rfl rfl rfl (fun _ _ => by simp [go_sem]) ?_)
  rotate_left
  repeat (first | (refine xWalk_make rfl ?_) | (refine xWalk_op (by decide) (by decide) (fun K hK => ?_); go_simp; (try go_ints); first | (refine hK _ ?_; clear hK K) | (apply Exists.intro; refine ⟨fun xg => ?_, hK _ ?_⟩; (fail); clear hK K)) | (refine xWalk_fill (by decide) rfl ?_ ?_; (intro xf yf; simp [go_sem, newPtr]; rfl)))
  refine xWalk_nil ?_
  intro x55 y55
  simp only [newPtr, ext_size, World.size_alloc]
  simp only [Act.put, List.setIfInBounds_toArray, List.set_cons_zero, List.set_cons_succ]
  go_wp2
  go_returns
  exact ⟨rfl, (by repeat' (first | (with_reducible exact Grows.refl _) | (with_reducible refine Grows.alloc ?_ _) | (with_reducible refine Grows.drew ?_) | (with_reducible refine Grows.ext ?_ _ _)))⟩

set_option maxHeartbeats 1000000 in
theorem dcursor_tfft (rows cols top long row col : Int) (o : Bool) (h1 : 0 ≤ rows ∧ rows < 256) (h2 : 0 ≤ cols ∧ cols < 256) (h3 : 0 ≤ top ∧ top < 256) (h4 : 0 ≤ long ∧ long < 256) (h5 : 0 ≤ row ∧ row < 256) (h6 : 0 ≤ col ∧ col < 256) (w : World) (k8 : (row % 8 == 1) = true) (k4 : (row % 4 == 3) = false) (kc : (col % 4 == 3) = false) : Calls Try.prog 14 #[.agg #[.int .u8 rows, .int .u8 cols, .int .u8 top, .int .u8 long, .int .u8 row, .int .u8 col, .bool o, .bool true]] w (Ret (.agg #[.int .i64 (dT rows top long), .int .i64 (col % dC cols), .bool ((col % dC cols == dC cols - 1))]) w) := by
  obtain ⟨hT, hTB, hB, -⟩ := dTop_bd (top := top) h1.1 h3.1 h4.1
  have hr : 1 ≤ dR rows ∧ dR rows ≤ 40 := by unfold dR; omega
  have hc : 2 ≤ dC cols ∧ dC cols ≤ 80 := by unfold dC; omega
  have hf := fun W => dfield_any rows cols top long row col o true h1 h2 h3 h4 h5 h6 W
  generalize dR rows = r at *
  generalize dC cols = c at *
  generalize dT rows top long = t at *
  generalize dB rows top long = b at *
  have q3 := Int.emod_nonneg row (show r ≠ 0 by omega)
  have q4 := Int.emod_lt_of_pos row (show 0 < r by omega)
  have q5 := Int.emod_nonneg col (show c ≠ 0 by omega)
  have q6 := Int.emod_lt_of_pos col (show 0 < c by omega)
  obtain ⟨h5, h5'⟩ := h5
  obtain ⟨h6, h6'⟩ := h6
  have nr : ¬ r = 0 := by omega
  have nc : ¬ c = 0 := by omega
  have Hf := Lib.hid hf
  clear hf h1 h2 h3 h4
  go_enter Try.func14, Try.ntmps14
  go_wp2_with (go_at_call 12; refine (Hf.out _).mono ?_; rintro e w' ⟨rfl, h0, d0, rfl⟩)
  try simp only [ext_ext]
  first | (refine wp_region_fill_ext 13 14 (.cells #[.int .i64 0, .int .i64 0, .bool false] 27) (O' := ?ob56a) (by kernel_rfl) (by kernel_rfl) rfl rfl rfl rfl rfl (fun _ _ => by simp [go_sem]) ?_) | (refine wp_region_fill 13 14 (.cells #[.int .i64 0, .int .i64 0, .bool false] 27) (O' := ?ob56b) (by kernel_rfl) (by kernel_rfl) rfl rfl rfl rfl rfl (fun _ _ => by simp [go_sem]) ?_)
  rotate_left
  repeat (first | (refine xWalk_make rfl ?_) | (refine xWalk_op (by decide) (by decide) (fun K hK => ?_); go_simp; (try go_ints); first | (refine hK _ ?_; clear hK K) | (apply Exists.intro; refine ⟨fun xg => ?_, hK _ ?_⟩; (fail); clear hK K)) | (refine xWalk_fill (by decide) rfl ?_ ?_; (intro xf yf; simp [go_sem, newPtr]; rfl)))
  refine xWalk_nil ?_
  intro x56 y56
  simp only [newPtr, ext_size, World.size_alloc]
  simp only [Act.put, List.setIfInBounds_toArray, List.set_cons_zero, List.set_cons_succ]
  go_wp2
  go_returns
  exact ⟨rfl, (by repeat' (first | (with_reducible exact Grows.refl _) | (with_reducible refine Grows.alloc ?_ _) | (with_reducible refine Grows.drew ?_) | (with_reducible refine Grows.ext ?_ _ _)))⟩

set_option maxHeartbeats 1000000 in
theorem dcursor_tfff (rows cols top long row col : Int) (o : Bool) (h1 : 0 ≤ rows ∧ rows < 256) (h2 : 0 ≤ cols ∧ cols < 256) (h3 : 0 ≤ top ∧ top < 256) (h4 : 0 ≤ long ∧ long < 256) (h5 : 0 ≤ row ∧ row < 256) (h6 : 0 ≤ col ∧ col < 256) (w : World) (k8 : (row % 8 == 1) = true) (k4 : (row % 4 == 3) = false) (kc : (col % 4 == 3) = false) : Calls Try.prog 14 #[.agg #[.int .u8 rows, .int .u8 cols, .int .u8 top, .int .u8 long, .int .u8 row, .int .u8 col, .bool o, .bool false]] w (Ret (.agg #[.int .i64 (dT rows top long), .int .i64 (col % dC cols), .bool (false)]) w) := by
  obtain ⟨hT, hTB, hB, -⟩ := dTop_bd (top := top) h1.1 h3.1 h4.1
  have hr : 1 ≤ dR rows ∧ dR rows ≤ 40 := by unfold dR; omega
  have hc : 2 ≤ dC cols ∧ dC cols ≤ 80 := by unfold dC; omega
  have hf := fun W => dfield_any rows cols top long row col o false h1 h2 h3 h4 h5 h6 W
  generalize dR rows = r at *
  generalize dC cols = c at *
  generalize dT rows top long = t at *
  generalize dB rows top long = b at *
  have q3 := Int.emod_nonneg row (show r ≠ 0 by omega)
  have q4 := Int.emod_lt_of_pos row (show 0 < r by omega)
  have q5 := Int.emod_nonneg col (show c ≠ 0 by omega)
  have q6 := Int.emod_lt_of_pos col (show 0 < c by omega)
  obtain ⟨h5, h5'⟩ := h5
  obtain ⟨h6, h6'⟩ := h6
  have nr : ¬ r = 0 := by omega
  have nc : ¬ c = 0 := by omega
  have Hf := Lib.hid hf
  clear hf h1 h2 h3 h4
  go_enter Try.func14, Try.ntmps14
  go_wp2_with (go_at_call 12; refine (Hf.out _).mono ?_; rintro e w' ⟨rfl, h0, d0, rfl⟩)
  try simp only [ext_ext]
  first | (refine wp_region_fill_ext 13 14 (.cells #[.int .i64 0, .int .i64 0, .bool false] 27) (O' := ?ob57a) (by kernel_rfl) (by kernel_rfl) rfl rfl rfl rfl rfl (fun _ _ => by simp [go_sem]) ?_) | (refine wp_region_fill 13 14 (.cells #[.int .i64 0, .int .i64 0, .bool false] 27) (O' := ?ob57b) (by kernel_rfl) (by kernel_rfl) rfl rfl rfl rfl rfl (fun _ _ => by simp [go_sem]) ?_)
  rotate_left
  repeat (first | (refine xWalk_make rfl ?_) | (refine xWalk_op (by decide) (by decide) (fun K hK => ?_); go_simp; (try go_ints); first | (refine hK _ ?_; clear hK K) | (apply Exists.intro; refine ⟨fun xg => ?_, hK _ ?_⟩; (fail); clear hK K)) | (refine xWalk_fill (by decide) rfl ?_ ?_; (intro xf yf; simp [go_sem, newPtr]; rfl)))
  refine xWalk_nil ?_
  intro x57 y57
  simp only [newPtr, ext_size, World.size_alloc]
  simp only [Act.put, List.setIfInBounds_toArray, List.set_cons_zero, List.set_cons_succ]
  go_wp2
  go_returns
  exact ⟨rfl, (by repeat' (first | (with_reducible exact Grows.refl _) | (with_reducible refine Grows.alloc ?_ _) | (with_reducible refine Grows.drew ?_) | (with_reducible refine Grows.ext ?_ _ _)))⟩

set_option maxHeartbeats 1000000 in
theorem dcursor_fttt (rows cols top long row col : Int) (o : Bool) (h1 : 0 ≤ rows ∧ rows < 256) (h2 : 0 ≤ cols ∧ cols < 256) (h3 : 0 ≤ top ∧ top < 256) (h4 : 0 ≤ long ∧ long < 256) (h5 : 0 ≤ row ∧ row < 256) (h6 : 0 ≤ col ∧ col < 256) (w : World) (k8 : (row % 8 == 1) = false) (k4 : (row % 4 == 3) = true) (kc : (col % 4 == 3) = true) : Calls Try.prog 14 #[.agg #[.int .u8 rows, .int .u8 cols, .int .u8 top, .int .u8 long, .int .u8 row, .int .u8 col, .bool o, .bool true]] w (Ret (.agg #[.int .i64 (dB rows top long), .int .i64 (dC cols - 1), .bool (true)]) w) := by
  obtain ⟨hT, hTB, hB, -⟩ := dTop_bd (top := top) h1.1 h3.1 h4.1
  have hr : 1 ≤ dR rows ∧ dR rows ≤ 40 := by unfold dR; omega
  have hc : 2 ≤ dC cols ∧ dC cols ≤ 80 := by unfold dC; omega
  have hf := fun W => dfield_any rows cols top long row col o true h1 h2 h3 h4 h5 h6 W
  generalize dR rows = r at *
  generalize dC cols = c at *
  generalize dT rows top long = t at *
  generalize dB rows top long = b at *
  have q3 := Int.emod_nonneg row (show r ≠ 0 by omega)
  have q4 := Int.emod_lt_of_pos row (show 0 < r by omega)
  have q5 := Int.emod_nonneg col (show c ≠ 0 by omega)
  have q6 := Int.emod_lt_of_pos col (show 0 < c by omega)
  obtain ⟨h5, h5'⟩ := h5
  obtain ⟨h6, h6'⟩ := h6
  have nr : ¬ r = 0 := by omega
  have nc : ¬ c = 0 := by omega
  have Hf := Lib.hid hf
  clear hf h1 h2 h3 h4
  go_enter Try.func14, Try.ntmps14
  go_wp2_with (go_at_call 12; refine (Hf.out _).mono ?_; rintro e w' ⟨rfl, h0, d0, rfl⟩)
  try simp only [ext_ext]
  first | (refine wp_region_fill_ext 13 14 (.cells #[.int .i64 0, .int .i64 0, .bool false] 27) (O' := ?ob58a) (by kernel_rfl) (by kernel_rfl) rfl rfl rfl rfl rfl (fun _ _ => by simp [go_sem]) ?_) | (refine wp_region_fill 13 14 (.cells #[.int .i64 0, .int .i64 0, .bool false] 27) (O' := ?ob58b) (by kernel_rfl) (by kernel_rfl) rfl rfl rfl rfl rfl (fun _ _ => by simp [go_sem]) ?_)
  rotate_left
  repeat (first | (refine xWalk_make rfl ?_) | (refine xWalk_op (by decide) (by decide) (fun K hK => ?_); go_simp; (try go_ints); first | (refine hK _ ?_; clear hK K) | (apply Exists.intro; refine ⟨fun xg => ?_, hK _ ?_⟩; (fail); clear hK K)) | (refine xWalk_fill (by decide) rfl ?_ ?_; (intro xf yf; simp [go_sem, newPtr]; rfl)))
  refine xWalk_nil ?_
  intro x58 y58
  simp only [newPtr, ext_size, World.size_alloc]
  simp only [Act.put, List.setIfInBounds_toArray, List.set_cons_zero, List.set_cons_succ]
  go_wp2
  go_returns
  exact ⟨rfl, (by repeat' (first | (with_reducible exact Grows.refl _) | (with_reducible refine Grows.alloc ?_ _) | (with_reducible refine Grows.drew ?_) | (with_reducible refine Grows.ext ?_ _ _)))⟩

set_option maxHeartbeats 1000000 in
theorem dcursor_fttf (rows cols top long row col : Int) (o : Bool) (h1 : 0 ≤ rows ∧ rows < 256) (h2 : 0 ≤ cols ∧ cols < 256) (h3 : 0 ≤ top ∧ top < 256) (h4 : 0 ≤ long ∧ long < 256) (h5 : 0 ≤ row ∧ row < 256) (h6 : 0 ≤ col ∧ col < 256) (w : World) (k8 : (row % 8 == 1) = false) (k4 : (row % 4 == 3) = true) (kc : (col % 4 == 3) = true) : Calls Try.prog 14 #[.agg #[.int .u8 rows, .int .u8 cols, .int .u8 top, .int .u8 long, .int .u8 row, .int .u8 col, .bool o, .bool false]] w (Ret (.agg #[.int .i64 (dB rows top long), .int .i64 (dC cols - 1), .bool (false)]) w) := by
  obtain ⟨hT, hTB, hB, -⟩ := dTop_bd (top := top) h1.1 h3.1 h4.1
  have hr : 1 ≤ dR rows ∧ dR rows ≤ 40 := by unfold dR; omega
  have hc : 2 ≤ dC cols ∧ dC cols ≤ 80 := by unfold dC; omega
  have hf := fun W => dfield_any rows cols top long row col o false h1 h2 h3 h4 h5 h6 W
  generalize dR rows = r at *
  generalize dC cols = c at *
  generalize dT rows top long = t at *
  generalize dB rows top long = b at *
  have q3 := Int.emod_nonneg row (show r ≠ 0 by omega)
  have q4 := Int.emod_lt_of_pos row (show 0 < r by omega)
  have q5 := Int.emod_nonneg col (show c ≠ 0 by omega)
  have q6 := Int.emod_lt_of_pos col (show 0 < c by omega)
  obtain ⟨h5, h5'⟩ := h5
  obtain ⟨h6, h6'⟩ := h6
  have nr : ¬ r = 0 := by omega
  have nc : ¬ c = 0 := by omega
  have Hf := Lib.hid hf
  clear hf h1 h2 h3 h4
  go_enter Try.func14, Try.ntmps14
  go_wp2_with (go_at_call 12; refine (Hf.out _).mono ?_; rintro e w' ⟨rfl, h0, d0, rfl⟩)
  try simp only [ext_ext]
  first | (refine wp_region_fill_ext 13 14 (.cells #[.int .i64 0, .int .i64 0, .bool false] 27) (O' := ?ob59a) (by kernel_rfl) (by kernel_rfl) rfl rfl rfl rfl rfl (fun _ _ => by simp [go_sem]) ?_) | (refine wp_region_fill 13 14 (.cells #[.int .i64 0, .int .i64 0, .bool false] 27) (O' := ?ob59b) (by kernel_rfl) (by kernel_rfl) rfl rfl rfl rfl rfl (fun _ _ => by simp [go_sem]) ?_)
  rotate_left
  repeat (first | (refine xWalk_make rfl ?_) | (refine xWalk_op (by decide) (by decide) (fun K hK => ?_); go_simp; (try go_ints); first | (refine hK _ ?_; clear hK K) | (apply Exists.intro; refine ⟨fun xg => ?_, hK _ ?_⟩; (fail); clear hK K)) | (refine xWalk_fill (by decide) rfl ?_ ?_; (intro xf yf; simp [go_sem, newPtr]; rfl)))
  refine xWalk_nil ?_
  intro x59 y59
  simp only [newPtr, ext_size, World.size_alloc]
  simp only [Act.put, List.setIfInBounds_toArray, List.set_cons_zero, List.set_cons_succ]
  go_wp2
  go_returns
  exact ⟨rfl, (by repeat' (first | (with_reducible exact Grows.refl _) | (with_reducible refine Grows.alloc ?_ _) | (with_reducible refine Grows.drew ?_) | (with_reducible refine Grows.ext ?_ _ _)))⟩

set_option maxHeartbeats 1000000 in
theorem dcursor_ftft (rows cols top long row col : Int) (o : Bool) (h1 : 0 ≤ rows ∧ rows < 256) (h2 : 0 ≤ cols ∧ cols < 256) (h3 : 0 ≤ top ∧ top < 256) (h4 : 0 ≤ long ∧ long < 256) (h5 : 0 ≤ row ∧ row < 256) (h6 : 0 ≤ col ∧ col < 256) (w : World) (k8 : (row % 8 == 1) = false) (k4 : (row % 4 == 3) = true) (kc : (col % 4 == 3) = false) : Calls Try.prog 14 #[.agg #[.int .u8 rows, .int .u8 cols, .int .u8 top, .int .u8 long, .int .u8 row, .int .u8 col, .bool o, .bool true]] w (Ret (.agg #[.int .i64 (dB rows top long), .int .i64 (col % dC cols), .bool ((col % dC cols == dC cols - 1))]) w) := by
  obtain ⟨hT, hTB, hB, -⟩ := dTop_bd (top := top) h1.1 h3.1 h4.1
  have hr : 1 ≤ dR rows ∧ dR rows ≤ 40 := by unfold dR; omega
  have hc : 2 ≤ dC cols ∧ dC cols ≤ 80 := by unfold dC; omega
  have hf := fun W => dfield_any rows cols top long row col o true h1 h2 h3 h4 h5 h6 W
  generalize dR rows = r at *
  generalize dC cols = c at *
  generalize dT rows top long = t at *
  generalize dB rows top long = b at *
  have q3 := Int.emod_nonneg row (show r ≠ 0 by omega)
  have q4 := Int.emod_lt_of_pos row (show 0 < r by omega)
  have q5 := Int.emod_nonneg col (show c ≠ 0 by omega)
  have q6 := Int.emod_lt_of_pos col (show 0 < c by omega)
  obtain ⟨h5, h5'⟩ := h5
  obtain ⟨h6, h6'⟩ := h6
  have nr : ¬ r = 0 := by omega
  have nc : ¬ c = 0 := by omega
  have Hf := Lib.hid hf
  clear hf h1 h2 h3 h4
  go_enter Try.func14, Try.ntmps14
  go_wp2_with (go_at_call 12; refine (Hf.out _).mono ?_; rintro e w' ⟨rfl, h0, d0, rfl⟩)
  try simp only [ext_ext]
  first | (refine wp_region_fill_ext 13 14 (.cells #[.int .i64 0, .int .i64 0, .bool false] 27) (O' := ?ob60a) (by kernel_rfl) (by kernel_rfl) rfl rfl rfl rfl rfl (fun _ _ => by simp [go_sem]) ?_) | (refine wp_region_fill 13 14 (.cells #[.int .i64 0, .int .i64 0, .bool false] 27) (O' := ?ob60b) (by kernel_rfl) (by kernel_rfl) rfl rfl rfl rfl rfl (fun _ _ => by simp [go_sem]) ?_)
  rotate_left
  repeat (first | (refine xWalk_make rfl ?_) | (refine xWalk_op (by decide) (by decide) (fun K hK => ?_); go_simp; (try go_ints); first | (refine hK _ ?_; clear hK K) | (apply Exists.intro; refine ⟨fun xg => ?_, hK _ ?_⟩; (fail); clear hK K)) | (refine xWalk_fill (by decide) rfl ?_ ?_; (intro xf yf; simp [go_sem, newPtr]; rfl)))
  refine xWalk_nil ?_
  intro x60 y60
  simp only [newPtr, ext_size, World.size_alloc]
  simp only [Act.put, List.setIfInBounds_toArray, List.set_cons_zero, List.set_cons_succ]
  go_wp2
  go_returns
  exact ⟨rfl, (by repeat' (first | (with_reducible exact Grows.refl _) | (with_reducible refine Grows.alloc ?_ _) | (with_reducible refine Grows.drew ?_) | (with_reducible refine Grows.ext ?_ _ _)))⟩

set_option maxHeartbeats 1000000 in
theorem dcursor_ftff (rows cols top long row col : Int) (o : Bool) (h1 : 0 ≤ rows ∧ rows < 256) (h2 : 0 ≤ cols ∧ cols < 256) (h3 : 0 ≤ top ∧ top < 256) (h4 : 0 ≤ long ∧ long < 256) (h5 : 0 ≤ row ∧ row < 256) (h6 : 0 ≤ col ∧ col < 256) (w : World) (k8 : (row % 8 == 1) = false) (k4 : (row % 4 == 3) = true) (kc : (col % 4 == 3) = false) : Calls Try.prog 14 #[.agg #[.int .u8 rows, .int .u8 cols, .int .u8 top, .int .u8 long, .int .u8 row, .int .u8 col, .bool o, .bool false]] w (Ret (.agg #[.int .i64 (dB rows top long), .int .i64 (col % dC cols), .bool (false)]) w) := by
  obtain ⟨hT, hTB, hB, -⟩ := dTop_bd (top := top) h1.1 h3.1 h4.1
  have hr : 1 ≤ dR rows ∧ dR rows ≤ 40 := by unfold dR; omega
  have hc : 2 ≤ dC cols ∧ dC cols ≤ 80 := by unfold dC; omega
  have hf := fun W => dfield_any rows cols top long row col o false h1 h2 h3 h4 h5 h6 W
  generalize dR rows = r at *
  generalize dC cols = c at *
  generalize dT rows top long = t at *
  generalize dB rows top long = b at *
  have q3 := Int.emod_nonneg row (show r ≠ 0 by omega)
  have q4 := Int.emod_lt_of_pos row (show 0 < r by omega)
  have q5 := Int.emod_nonneg col (show c ≠ 0 by omega)
  have q6 := Int.emod_lt_of_pos col (show 0 < c by omega)
  obtain ⟨h5, h5'⟩ := h5
  obtain ⟨h6, h6'⟩ := h6
  have nr : ¬ r = 0 := by omega
  have nc : ¬ c = 0 := by omega
  have Hf := Lib.hid hf
  clear hf h1 h2 h3 h4
  go_enter Try.func14, Try.ntmps14
  go_wp2_with (go_at_call 12; refine (Hf.out _).mono ?_; rintro e w' ⟨rfl, h0, d0, rfl⟩)
  try simp only [ext_ext]
  first | (refine wp_region_fill_ext 13 14 (.cells #[.int .i64 0, .int .i64 0, .bool false] 27) (O' := ?ob61a) (by kernel_rfl) (by kernel_rfl) rfl rfl rfl rfl rfl (fun _ _ => by simp [go_sem]) ?_) | (refine wp_region_fill 13 14 (.cells #[.int .i64 0, .int .i64 0, .bool false] 27) (O' := ?ob61b) (by kernel_rfl) (by kernel_rfl) rfl rfl rfl rfl rfl (fun _ _ => by simp [go_sem]) ?_)
  rotate_left
  repeat (first | (refine xWalk_make rfl ?_) | (refine xWalk_op (by decide) (by decide) (fun K hK => ?_); go_simp; (try go_ints); first | (refine hK _ ?_; clear hK K) | (apply Exists.intro; refine ⟨fun xg => ?_, hK _ ?_⟩; (fail); clear hK K)) | (refine xWalk_fill (by decide) rfl ?_ ?_; (intro xf yf; simp [go_sem, newPtr]; rfl)))
  refine xWalk_nil ?_
  intro x61 y61
  simp only [newPtr, ext_size, World.size_alloc]
  simp only [Act.put, List.setIfInBounds_toArray, List.set_cons_zero, List.set_cons_succ]
  go_wp2
  go_returns
  exact ⟨rfl, (by repeat' (first | (with_reducible exact Grows.refl _) | (with_reducible refine Grows.alloc ?_ _) | (with_reducible refine Grows.drew ?_) | (with_reducible refine Grows.ext ?_ _ _)))⟩

set_option maxHeartbeats 1000000 in
theorem dcursor_fftt (rows cols top long row col : Int) (o : Bool) (h1 : 0 ≤ rows ∧ rows < 256) (h2 : 0 ≤ cols ∧ cols < 256) (h3 : 0 ≤ top ∧ top < 256) (h4 : 0 ≤ long ∧ long < 256) (h5 : 0 ≤ row ∧ row < 256) (h6 : 0 ≤ col ∧ col < 256) (w : World) (k8 : (row % 8 == 1) = false) (k4 : (row % 4 == 3) = false) (kc : (col % 4 == 3) = true) : Calls Try.prog 14 #[.agg #[.int .u8 rows, .int .u8 cols, .int .u8 top, .int .u8 long, .int .u8 row, .int .u8 col, .bool o, .bool true]] w (Ret (.agg #[.int .i64 (row % dR rows), .int .i64 (dC cols - 1), .bool (true)]) w) := by
  obtain ⟨hT, hTB, hB, -⟩ := dTop_bd (top := top) h1.1 h3.1 h4.1
  have hr : 1 ≤ dR rows ∧ dR rows ≤ 40 := by unfold dR; omega
  have hc : 2 ≤ dC cols ∧ dC cols ≤ 80 := by unfold dC; omega
  have hf := fun W => dfield_any rows cols top long row col o true h1 h2 h3 h4 h5 h6 W
  generalize dR rows = r at *
  generalize dC cols = c at *
  generalize dT rows top long = t at *
  generalize dB rows top long = b at *
  have q3 := Int.emod_nonneg row (show r ≠ 0 by omega)
  have q4 := Int.emod_lt_of_pos row (show 0 < r by omega)
  have q5 := Int.emod_nonneg col (show c ≠ 0 by omega)
  have q6 := Int.emod_lt_of_pos col (show 0 < c by omega)
  obtain ⟨h5, h5'⟩ := h5
  obtain ⟨h6, h6'⟩ := h6
  have nr : ¬ r = 0 := by omega
  have nc : ¬ c = 0 := by omega
  have Hf := Lib.hid hf
  clear hf h1 h2 h3 h4
  go_enter Try.func14, Try.ntmps14
  go_wp2_with (go_at_call 12; refine (Hf.out _).mono ?_; rintro e w' ⟨rfl, h0, d0, rfl⟩)
  try simp only [ext_ext]
  first | (refine wp_region_fill_ext 13 14 (.cells #[.int .i64 0, .int .i64 0, .bool false] 27) (O' := ?ob62a) (by kernel_rfl) (by kernel_rfl) rfl rfl rfl rfl rfl (fun _ _ => by simp [go_sem]) ?_) | (refine wp_region_fill 13 14 (.cells #[.int .i64 0, .int .i64 0, .bool false] 27) (O' := ?ob62b) (by kernel_rfl) (by kernel_rfl) rfl rfl rfl rfl rfl (fun _ _ => by simp [go_sem]) ?_)
  rotate_left
  repeat (first | (refine xWalk_make rfl ?_) | (refine xWalk_op (by decide) (by decide) (fun K hK => ?_); go_simp; (try go_ints); first | (refine hK _ ?_; clear hK K) | (apply Exists.intro; refine ⟨fun xg => ?_, hK _ ?_⟩; (fail); clear hK K)) | (refine xWalk_fill (by decide) rfl ?_ ?_; (intro xf yf; simp [go_sem, newPtr]; rfl)))
  refine xWalk_nil ?_
  intro x62 y62
  simp only [newPtr, ext_size, World.size_alloc]
  simp only [Act.put, List.setIfInBounds_toArray, List.set_cons_zero, List.set_cons_succ]
  go_wp2
  go_returns
  exact ⟨rfl, (by repeat' (first | (with_reducible exact Grows.refl _) | (with_reducible refine Grows.alloc ?_ _) | (with_reducible refine Grows.drew ?_) | (with_reducible refine Grows.ext ?_ _ _)))⟩

set_option maxHeartbeats 1000000 in
theorem dcursor_fftf (rows cols top long row col : Int) (o : Bool) (h1 : 0 ≤ rows ∧ rows < 256) (h2 : 0 ≤ cols ∧ cols < 256) (h3 : 0 ≤ top ∧ top < 256) (h4 : 0 ≤ long ∧ long < 256) (h5 : 0 ≤ row ∧ row < 256) (h6 : 0 ≤ col ∧ col < 256) (w : World) (k8 : (row % 8 == 1) = false) (k4 : (row % 4 == 3) = false) (kc : (col % 4 == 3) = true) : Calls Try.prog 14 #[.agg #[.int .u8 rows, .int .u8 cols, .int .u8 top, .int .u8 long, .int .u8 row, .int .u8 col, .bool o, .bool false]] w (Ret (.agg #[.int .i64 (row % dR rows), .int .i64 (dC cols - 1), .bool (false)]) w) := by
  obtain ⟨hT, hTB, hB, -⟩ := dTop_bd (top := top) h1.1 h3.1 h4.1
  have hr : 1 ≤ dR rows ∧ dR rows ≤ 40 := by unfold dR; omega
  have hc : 2 ≤ dC cols ∧ dC cols ≤ 80 := by unfold dC; omega
  have hf := fun W => dfield_any rows cols top long row col o false h1 h2 h3 h4 h5 h6 W
  generalize dR rows = r at *
  generalize dC cols = c at *
  generalize dT rows top long = t at *
  generalize dB rows top long = b at *
  have q3 := Int.emod_nonneg row (show r ≠ 0 by omega)
  have q4 := Int.emod_lt_of_pos row (show 0 < r by omega)
  have q5 := Int.emod_nonneg col (show c ≠ 0 by omega)
  have q6 := Int.emod_lt_of_pos col (show 0 < c by omega)
  obtain ⟨h5, h5'⟩ := h5
  obtain ⟨h6, h6'⟩ := h6
  have nr : ¬ r = 0 := by omega
  have nc : ¬ c = 0 := by omega
  have Hf := Lib.hid hf
  clear hf h1 h2 h3 h4
  go_enter Try.func14, Try.ntmps14
  go_wp2_with (go_at_call 12; refine (Hf.out _).mono ?_; rintro e w' ⟨rfl, h0, d0, rfl⟩)
  try simp only [ext_ext]
  first | (refine wp_region_fill_ext 13 14 (.cells #[.int .i64 0, .int .i64 0, .bool false] 27) (O' := ?ob63a) (by kernel_rfl) (by kernel_rfl) rfl rfl rfl rfl rfl (fun _ _ => by simp [go_sem]) ?_) | (refine wp_region_fill 13 14 (.cells #[.int .i64 0, .int .i64 0, .bool false] 27) (O' := ?ob63b) (by kernel_rfl) (by kernel_rfl) rfl rfl rfl rfl rfl (fun _ _ => by simp [go_sem]) ?_)
  rotate_left
  repeat (first | (refine xWalk_make rfl ?_) | (refine xWalk_op (by decide) (by decide) (fun K hK => ?_); go_simp; (try go_ints); first | (refine hK _ ?_; clear hK K) | (apply Exists.intro; refine ⟨fun xg => ?_, hK _ ?_⟩; (fail); clear hK K)) | (refine xWalk_fill (by decide) rfl ?_ ?_; (intro xf yf; simp [go_sem, newPtr]; rfl)))
  refine xWalk_nil ?_
  intro x63 y63
  simp only [newPtr, ext_size, World.size_alloc]
  simp only [Act.put, List.setIfInBounds_toArray, List.set_cons_zero, List.set_cons_succ]
  go_wp2
  go_returns
  exact ⟨rfl, (by repeat' (first | (with_reducible exact Grows.refl _) | (with_reducible refine Grows.alloc ?_ _) | (with_reducible refine Grows.drew ?_) | (with_reducible refine Grows.ext ?_ _ _)))⟩

set_option maxHeartbeats 1000000 in
theorem dcursor_ffft (rows cols top long row col : Int) (o : Bool) (h1 : 0 ≤ rows ∧ rows < 256) (h2 : 0 ≤ cols ∧ cols < 256) (h3 : 0 ≤ top ∧ top < 256) (h4 : 0 ≤ long ∧ long < 256) (h5 : 0 ≤ row ∧ row < 256) (h6 : 0 ≤ col ∧ col < 256) (w : World) (k8 : (row % 8 == 1) = false) (k4 : (row % 4 == 3) = false) (kc : (col % 4 == 3) = false) : Calls Try.prog 14 #[.agg #[.int .u8 rows, .int .u8 cols, .int .u8 top, .int .u8 long, .int .u8 row, .int .u8 col, .bool o, .bool true]] w (Ret (.agg #[.int .i64 (row % dR rows), .int .i64 (col % dC cols), .bool ((col % dC cols == dC cols - 1))]) w) := by
  obtain ⟨hT, hTB, hB, -⟩ := dTop_bd (top := top) h1.1 h3.1 h4.1
  have hr : 1 ≤ dR rows ∧ dR rows ≤ 40 := by unfold dR; omega
  have hc : 2 ≤ dC cols ∧ dC cols ≤ 80 := by unfold dC; omega
  have hf := fun W => dfield_any rows cols top long row col o true h1 h2 h3 h4 h5 h6 W
  generalize dR rows = r at *
  generalize dC cols = c at *
  generalize dT rows top long = t at *
  generalize dB rows top long = b at *
  have q3 := Int.emod_nonneg row (show r ≠ 0 by omega)
  have q4 := Int.emod_lt_of_pos row (show 0 < r by omega)
  have q5 := Int.emod_nonneg col (show c ≠ 0 by omega)
  have q6 := Int.emod_lt_of_pos col (show 0 < c by omega)
  obtain ⟨h5, h5'⟩ := h5
  obtain ⟨h6, h6'⟩ := h6
  have nr : ¬ r = 0 := by omega
  have nc : ¬ c = 0 := by omega
  have Hf := Lib.hid hf
  clear hf h1 h2 h3 h4
  go_enter Try.func14, Try.ntmps14
  go_wp2_with (go_at_call 12; refine (Hf.out _).mono ?_; rintro e w' ⟨rfl, h0, d0, rfl⟩)
  try simp only [ext_ext]
  first | (refine wp_region_fill_ext 13 14 (.cells #[.int .i64 0, .int .i64 0, .bool false] 27) (O' := ?ob64a) (by kernel_rfl) (by kernel_rfl) rfl rfl rfl rfl rfl (fun _ _ => by simp [go_sem]) ?_) | (refine wp_region_fill 13 14 (.cells #[.int .i64 0, .int .i64 0, .bool false] 27) (O' := ?ob64b) (by kernel_rfl) (by kernel_rfl) rfl rfl rfl rfl rfl (fun _ _ => by simp [go_sem]) ?_)
  rotate_left
  repeat (first | (refine xWalk_make rfl ?_) | (refine xWalk_op (by decide) (by decide) (fun K hK => ?_); go_simp; (try go_ints); first | (refine hK _ ?_; clear hK K) | (apply Exists.intro; refine ⟨fun xg => ?_, hK _ ?_⟩; (fail); clear hK K)) | (refine xWalk_fill (by decide) rfl ?_ ?_; (intro xf yf; simp [go_sem, newPtr]; rfl)))
  refine xWalk_nil ?_
  intro x64 y64
  simp only [newPtr, ext_size, World.size_alloc]
  simp only [Act.put, List.setIfInBounds_toArray, List.set_cons_zero, List.set_cons_succ]
  go_wp2
  go_returns
  exact ⟨rfl, (by repeat' (first | (with_reducible exact Grows.refl _) | (with_reducible refine Grows.alloc ?_ _) | (with_reducible refine Grows.drew ?_) | (with_reducible refine Grows.ext ?_ _ _)))⟩

set_option maxHeartbeats 1000000 in
theorem dcursor_ffff (rows cols top long row col : Int) (o : Bool) (h1 : 0 ≤ rows ∧ rows < 256) (h2 : 0 ≤ cols ∧ cols < 256) (h3 : 0 ≤ top ∧ top < 256) (h4 : 0 ≤ long ∧ long < 256) (h5 : 0 ≤ row ∧ row < 256) (h6 : 0 ≤ col ∧ col < 256) (w : World) (k8 : (row % 8 == 1) = false) (k4 : (row % 4 == 3) = false) (kc : (col % 4 == 3) = false) : Calls Try.prog 14 #[.agg #[.int .u8 rows, .int .u8 cols, .int .u8 top, .int .u8 long, .int .u8 row, .int .u8 col, .bool o, .bool false]] w (Ret (.agg #[.int .i64 (row % dR rows), .int .i64 (col % dC cols), .bool (false)]) w) := by
  obtain ⟨hT, hTB, hB, -⟩ := dTop_bd (top := top) h1.1 h3.1 h4.1
  have hr : 1 ≤ dR rows ∧ dR rows ≤ 40 := by unfold dR; omega
  have hc : 2 ≤ dC cols ∧ dC cols ≤ 80 := by unfold dC; omega
  have hf := fun W => dfield_any rows cols top long row col o false h1 h2 h3 h4 h5 h6 W
  generalize dR rows = r at *
  generalize dC cols = c at *
  generalize dT rows top long = t at *
  generalize dB rows top long = b at *
  have q3 := Int.emod_nonneg row (show r ≠ 0 by omega)
  have q4 := Int.emod_lt_of_pos row (show 0 < r by omega)
  have q5 := Int.emod_nonneg col (show c ≠ 0 by omega)
  have q6 := Int.emod_lt_of_pos col (show 0 < c by omega)
  obtain ⟨h5, h5'⟩ := h5
  obtain ⟨h6, h6'⟩ := h6
  have nr : ¬ r = 0 := by omega
  have nc : ¬ c = 0 := by omega
  have Hf := Lib.hid hf
  clear hf h1 h2 h3 h4
  go_enter Try.func14, Try.ntmps14
  go_wp2_with (go_at_call 12; refine (Hf.out _).mono ?_; rintro e w' ⟨rfl, h0, d0, rfl⟩)
  try simp only [ext_ext]
  first | (refine wp_region_fill_ext 13 14 (.cells #[.int .i64 0, .int .i64 0, .bool false] 27) (O' := ?ob65a) (by kernel_rfl) (by kernel_rfl) rfl rfl rfl rfl rfl (fun _ _ => by simp [go_sem]) ?_) | (refine wp_region_fill 13 14 (.cells #[.int .i64 0, .int .i64 0, .bool false] 27) (O' := ?ob65b) (by kernel_rfl) (by kernel_rfl) rfl rfl rfl rfl rfl (fun _ _ => by simp [go_sem]) ?_)
  rotate_left
  repeat (first | (refine xWalk_make rfl ?_) | (refine xWalk_op (by decide) (by decide) (fun K hK => ?_); go_simp; (try go_ints); first | (refine hK _ ?_; clear hK K) | (apply Exists.intro; refine ⟨fun xg => ?_, hK _ ?_⟩; (fail); clear hK K)) | (refine xWalk_fill (by decide) rfl ?_ ?_; (intro xf yf; simp [go_sem, newPtr]; rfl)))
  refine xWalk_nil ?_
  intro x65 y65
  simp only [newPtr, ext_size, World.size_alloc]
  simp only [Act.put, List.setIfInBounds_toArray, List.set_cons_zero, List.set_cons_succ]
  go_wp2
  go_returns
  exact ⟨rfl, (by repeat' (first | (with_reducible exact Grows.refl _) | (with_reducible refine Grows.alloc ?_ _) | (with_reducible refine Grows.drew ?_) | (with_reducible refine Grows.ext ?_ _ _)))⟩

theorem dcursor_any (rows cols top long row col : Int) (o wr : Bool) (h1 : 0 ≤ rows ∧ rows < 256) (h2 : 0 ≤ cols ∧ cols < 256) (h3 : 0 ≤ top ∧ top < 256) (h4 : 0 ≤ long ∧ long < 256) (h5 : 0 ≤ row ∧ row < 256) (h6 : 0 ≤ col ∧ col < 256) (w : World) : Calls Try.prog 14 #[.agg #[.int .u8 rows, .int .u8 cols, .int .u8 top, .int .u8 long, .int .u8 row, .int .u8 col, .bool o, .bool wr]] w (Ret (.agg #[.int .i64 (dRow rows top long row), .int .i64 (dCol cols col), .bool (dWr cols col wr)]) w) := by
  have e1 : dRow rows top long row = if (row % 8 == 1) = true then dT rows top long else if (row % 4 == 3) = true then dB rows top long else row % dR rows := by simp only [dRow, beq_iff_eq]
  have e2 : dCol cols col = if (col % 4 == 3) = true then dC cols - 1 else col % dC cols := by simp only [dCol, beq_iff_eq]
  cases k8 : row % 8 == 1 <;> cases k4 : row % 4 == 3 <;> cases kc : col % 4 == 3 <;> cases wr
  · simp only [k8, k4, kc, if_false, Bool.false_eq_true] at e1 e2
    have h := dcursor_ffff rows cols top long row col o h1 h2 h3 h4 h5 h6 w k8 k4 kc
    simp only [dWr, e1, e2, Bool.false_and]
    exact h
  · simp only [k8, k4, kc, if_false, Bool.false_eq_true] at e1 e2
    have h := dcursor_ffft rows cols top long row col o h1 h2 h3 h4 h5 h6 w k8 k4 kc
    simp only [dWr, e1, e2, Bool.true_and]
    exact h
  · simp only [k8, k4, kc, if_true, if_false, Bool.false_eq_true] at e1 e2
    have h := dcursor_fftf rows cols top long row col o h1 h2 h3 h4 h5 h6 w k8 k4 kc
    simp only [dWr, e1, e2, Bool.false_and, beq_self_eq_true]
    exact h
  · simp only [k8, k4, kc, if_true, if_false, Bool.false_eq_true] at e1 e2
    have h := dcursor_fftt rows cols top long row col o h1 h2 h3 h4 h5 h6 w k8 k4 kc
    simp only [dWr, e1, e2, Bool.true_and, beq_self_eq_true]
    exact h
  · simp only [k8, k4, kc, if_true, if_false, Bool.false_eq_true] at e1 e2
    have h := dcursor_ftff rows cols top long row col o h1 h2 h3 h4 h5 h6 w k8 k4 kc
    simp only [dWr, e1, e2, Bool.false_and]
    exact h
  · simp only [k8, k4, kc, if_true, if_false, Bool.false_eq_true] at e1 e2
    have h := dcursor_ftft rows cols top long row col o h1 h2 h3 h4 h5 h6 w k8 k4 kc
    simp only [dWr, e1, e2, Bool.true_and]
    exact h
  · simp only [k8, k4, kc, if_true, if_false, Bool.false_eq_true] at e1 e2
    have h := dcursor_fttf rows cols top long row col o h1 h2 h3 h4 h5 h6 w k8 k4 kc
    simp only [dWr, e1, e2, Bool.false_and, beq_self_eq_true]
    exact h
  · simp only [k8, k4, kc, if_true, if_false, Bool.false_eq_true] at e1 e2
    have h := dcursor_fttt rows cols top long row col o h1 h2 h3 h4 h5 h6 w k8 k4 kc
    simp only [dWr, e1, e2, Bool.true_and, beq_self_eq_true]
    exact h
  · simp only [k8, k4, kc, if_true, if_false, Bool.false_eq_true] at e1 e2
    have h := dcursor_tfff rows cols top long row col o h1 h2 h3 h4 h5 h6 w k8 k4 kc
    simp only [dWr, e1, e2, Bool.false_and]
    exact h
  · simp only [k8, k4, kc, if_true, if_false, Bool.false_eq_true] at e1 e2
    have h := dcursor_tfft rows cols top long row col o h1 h2 h3 h4 h5 h6 w k8 k4 kc
    simp only [dWr, e1, e2, Bool.true_and]
    exact h
  · simp only [k8, k4, kc, if_true, if_false, Bool.false_eq_true] at e1 e2
    have h := dcursor_tftf rows cols top long row col o h1 h2 h3 h4 h5 h6 w k8 k4 kc
    simp only [dWr, e1, e2, Bool.false_and, beq_self_eq_true]
    exact h
  · simp only [k8, k4, kc, if_true, if_false, Bool.false_eq_true] at e1 e2
    have h := dcursor_tftt rows cols top long row col o h1 h2 h3 h4 h5 h6 w k8 k4 kc
    simp only [dWr, e1, e2, Bool.true_and, beq_self_eq_true]
    exact h
  · simp at k8 k4; omega
  · simp at k8 k4; omega
  · simp at k8 k4; omega
  · simp at k8 k4; omega
end Go.Proofs.Ytepbknpdhiaepaa
