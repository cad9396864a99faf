/-
  Walk: attribute of the reference.
-/
import Derived.Test.YtafokiobbceibaaRows
import Derived.Test.YtafokiobbceibaaLt
import Derived.Test.YtafokiobbceibaaDefs
import Derived.Test.YtafokiobbceibaaBits
import Derived.Test.YtafokiobbceibaaW4
import Derived.WalkKit
import Derived.WalkSpells
import Derived.WalkLawsBesides
import Derived.Handy
import Derived.Laws.EntriesVeiled
import Derived.Lib.Hide
import Derived.Deep.Light
import Derived.Deep.LoopGhost
import Derived.BigGuardPart
import Derived.BigQuiet
import Derived.Deep.QuietTactic
import Derived.Deep.RegionHeld3
import Derived.Test.YtafokiobbceibaaReg
import Derived.Test.YtafokiobbceibaaReg3
import Derived.Test.YtafokiobbceibaaReg4
namespace Go.Proofs.Ytafokiobbceibaa
open Go.RowKit

theorem idx77_0 (x0 x1 x2 x3 x4 x5 x6 x7 : Value) (w : World) : (Instr.index 77 (.agg #[x0, x1, x2, x3, x4, x5, x6, x7]) (.int .i64 0)).run Try.prog w = .ok x0 w := by kernel_rfl
theorem idx77_1 (x0 x1 x2 x3 x4 x5 x6 x7 : Value) (w : World) : (Instr.index 77 (.agg #[x0, x1, x2, x3, x4, x5, x6, x7]) (.int .i64 1)).run Try.prog w = .ok x1 w := by kernel_rfl
theorem idx77_2 (x0 x1 x2 x3 x4 x5 x6 x7 : Value) (w : World) : (Instr.index 77 (.agg #[x0, x1, x2, x3, x4, x5, x6, x7]) (.int .i64 2)).run Try.prog w = .ok x2 w := by kernel_rfl
theorem idx77_3 (x0 x1 x2 x3 x4 x5 x6 x7 : Value) (w : World) : (Instr.index 77 (.agg #[x0, x1, x2, x3, x4, x5, x6, x7]) (.int .i64 3)).run Try.prog w = .ok x3 w := by kernel_rfl
theorem idx77_4 (x0 x1 x2 x3 x4 x5 x6 x7 : Value) (w : World) : (Instr.index 77 (.agg #[x0, x1, x2, x3, x4, x5, x6, x7]) (.int .i64 4)).run Try.prog w = .ok x4 w := by kernel_rfl
theorem idx77_5 (x0 x1 x2 x3 x4 x5 x6 x7 : Value) (w : World) : (Instr.index 77 (.agg #[x0, x1, x2, x3, x4, x5, x6, x7]) (.int .i64 5)).run Try.prog w = .ok x5 w := by kernel_rfl
theorem idx77_6 (x0 x1 x2 x3 x4 x5 x6 x7 : Value) (w : World) : (Instr.index 77 (.agg #[x0, x1, x2, x3, x4, x5, x6, x7]) (.int .i64 6)).run Try.prog w = .ok x6 w := by kernel_rfl
theorem idx77_7 (x0 x1 x2 x3 x4 x5 x6 x7 : Value) (w : World) : (Instr.index 77 (.agg #[x0, x1, x2, x3, x4, x5, x6, x7]) (.int .i64 7)).run Try.prog w = .ok x7 w := by kernel_rfl
theorem attr_1 (w : World) : Calls Try.prog 32 #[.int .i64 1] w (Ret (.bool (oneB 1)) w) := by
  rw [show oneB 1 = true by decide]
  go_enter Try.func32, Try.ntmps32
  go_wp2_with fail
  have ix0 := idx77_0
  have ix1 := idx77_1
  have ix2 := idx77_2
  have ix3 := idx77_3
  have ix4 := idx77_4
  have ix5 := idx77_5
  have ix6 := idx77_6
  have ix7 := idx77_7
  refine wp_loop_rounds 9 ?_
  repeat (rw [rounds_succ]; go_wp2_with fail)
  go_returns
  exact ⟨rfl, (by repeat' (first | (with_reducible exact Grows.refl _) | (with_reducible refine Grows.alloc ?_ _) | (with_reducible refine Grows.drew ?_) | (with_reducible refine Grows.ext ?_ _ _)))⟩
theorem attr_2 (w : World) : Calls Try.prog 32 #[.int .i64 2] w (Ret (.bool (oneB 2)) w) := by
  rw [show oneB 2 = true by decide]
  go_enter Try.func32, Try.ntmps32
  go_wp2_with fail
  have ix0 := idx77_0
  have ix1 := idx77_1
  have ix2 := idx77_2
  have ix3 := idx77_3
  have ix4 := idx77_4
  have ix5 := idx77_5
  have ix6 := idx77_6
  have ix7 := idx77_7
  refine wp_loop_rounds 9 ?_
  repeat (rw [rounds_succ]; go_wp2_with fail)
  go_returns
  exact ⟨rfl, (by repeat' (first | (with_reducible exact Grows.refl _) | (with_reducible refine Grows.alloc ?_ _) | (with_reducible refine Grows.drew ?_) | (with_reducible refine Grows.ext ?_ _ _)))⟩
theorem attr_4 (w : World) : Calls Try.prog 32 #[.int .i64 4] w (Ret (.bool (oneB 4)) w) := by
  rw [show oneB 4 = true by decide]
  go_enter Try.func32, Try.ntmps32
  go_wp2_with fail
  have ix0 := idx77_0
  have ix1 := idx77_1
  have ix2 := idx77_2
  have ix3 := idx77_3
  have ix4 := idx77_4
  have ix5 := idx77_5
  have ix6 := idx77_6
  have ix7 := idx77_7
  refine wp_loop_rounds 9 ?_
  repeat (rw [rounds_succ]; go_wp2_with fail)
  go_returns
  exact ⟨rfl, (by repeat' (first | (with_reducible exact Grows.refl _) | (with_reducible refine Grows.alloc ?_ _) | (with_reducible refine Grows.drew ?_) | (with_reducible refine Grows.ext ?_ _ _)))⟩
theorem attr_8 (w : World) : Calls Try.prog 32 #[.int .i64 8] w (Ret (.bool (oneB 8)) w) := by
  rw [show oneB 8 = true by decide]
  go_enter Try.func32, Try.ntmps32
  go_wp2_with fail
  have ix0 := idx77_0
  have ix1 := idx77_1
  have ix2 := idx77_2
  have ix3 := idx77_3
  have ix4 := idx77_4
  have ix5 := idx77_5
  have ix6 := idx77_6
  have ix7 := idx77_7
  refine wp_loop_rounds 9 ?_
  repeat (rw [rounds_succ]; go_wp2_with fail)
  go_returns
  exact ⟨rfl, (by repeat' (first | (with_reducible exact Grows.refl _) | (with_reducible refine Grows.alloc ?_ _) | (with_reducible refine Grows.drew ?_) | (with_reducible refine Grows.ext ?_ _ _)))⟩
theorem attr_16 (w : World) : Calls Try.prog 32 #[.int .i64 16] w (Ret (.bool (oneB 16)) w) := by
  rw [show oneB 16 = true by decide]
  go_enter Try.func32, Try.ntmps32
  go_wp2_with fail
  have ix0 := idx77_0
  have ix1 := idx77_1
  have ix2 := idx77_2
  have ix3 := idx77_3
  have ix4 := idx77_4
  have ix5 := idx77_5
  have ix6 := idx77_6
  have ix7 := idx77_7
  refine wp_loop_rounds 9 ?_
  repeat (rw [rounds_succ]; go_wp2_with fail)
  go_returns
  exact ⟨rfl, (by repeat' (first | (with_reducible exact Grows.refl _) | (with_reducible refine Grows.alloc ?_ _) | (with_reducible refine Grows.drew ?_) | (with_reducible refine Grows.ext ?_ _ _)))⟩
theorem attr_32 (w : World) : Calls Try.prog 32 #[.int .i64 32] w (Ret (.bool (oneB 32)) w) := by
  rw [show oneB 32 = true by decide]
  go_enter Try.func32, Try.ntmps32
  go_wp2_with fail
  have ix0 := idx77_0
  have ix1 := idx77_1
  have ix2 := idx77_2
  have ix3 := idx77_3
  have ix4 := idx77_4
  have ix5 := idx77_5
  have ix6 := idx77_6
  have ix7 := idx77_7
  refine wp_loop_rounds 9 ?_
  repeat (rw [rounds_succ]; go_wp2_with fail)
  go_returns
  exact ⟨rfl, (by repeat' (first | (with_reducible exact Grows.refl _) | (with_reducible refine Grows.alloc ?_ _) | (with_reducible refine Grows.drew ?_) | (with_reducible refine Grows.ext ?_ _ _)))⟩
theorem attr_64 (w : World) : Calls Try.prog 32 #[.int .i64 64] w (Ret (.bool (oneB 64)) w) := by
  rw [show oneB 64 = true by decide]
  go_enter Try.func32, Try.ntmps32
  go_wp2_with fail
  have ix0 := idx77_0
  have ix1 := idx77_1
  have ix2 := idx77_2
  have ix3 := idx77_3
  have ix4 := idx77_4
  have ix5 := idx77_5
  have ix6 := idx77_6
  have ix7 := idx77_7
  refine wp_loop_rounds 9 ?_
  repeat (rw [rounds_succ]; go_wp2_with fail)
  go_returns
  exact ⟨rfl, (by repeat' (first | (with_reducible exact Grows.refl _) | (with_reducible refine Grows.alloc ?_ _) | (with_reducible refine Grows.drew ?_) | (with_reducible refine Grows.ext ?_ _ _)))⟩
theorem attr_128 (w : World) : Calls Try.prog 32 #[.int .i64 128] w (Ret (.bool (oneB 128)) w) := by
  rw [show oneB 128 = true by decide]
  go_enter Try.func32, Try.ntmps32
  go_wp2_with fail
  have ix0 := idx77_0
  have ix1 := idx77_1
  have ix2 := idx77_2
  have ix3 := idx77_3
  have ix4 := idx77_4
  have ix5 := idx77_5
  have ix6 := idx77_6
  have ix7 := idx77_7
  refine wp_loop_rounds 9 ?_
  repeat (rw [rounds_succ]; go_wp2_with fail)
  go_returns
  exact ⟨rfl, (by repeat' (first | (with_reducible exact Grows.refl _) | (with_reducible refine Grows.alloc ?_ _) | (with_reducible refine Grows.drew ?_) | (with_reducible refine Grows.ext ?_ _ _)))⟩
theorem attr_no (m : Int) (h : ¬ (m = 1 ∨ m = 2 ∨ m = 4 ∨ m = 8 ∨ m = 16 ∨ m = 32 ∨ m = 64 ∨ m = 128)) (w : World) : Calls Try.prog 32 #[.int .i64 m] w (Ret (.bool (oneB m)) w) := by
  have n1 : (m == 1) = false := by simp; omega
  have n2 : (m == 2) = false := by simp; omega
  have n4 : (m == 4) = false := by simp; omega
  have n8 : (m == 8) = false := by simp; omega
  have n16 : (m == 16) = false := by simp; omega
  have n32 : (m == 32) = false := by simp; omega
  have n64 : (m == 64) = false := by simp; omega
  have n128 : (m == 128) = false := by simp; omega
  rw [show oneB m = false by simp [oneB, n1, n2, n4, n8, n16, n32, n64, n128]]
  clear h
  go_enter Try.func32, Try.ntmps32
  go_wp2_with fail
  have ix0 := idx77_0
  have ix1 := idx77_1
  have ix2 := idx77_2
  have ix3 := idx77_3
  have ix4 := idx77_4
  have ix5 := idx77_5
  have ix6 := idx77_6
  have ix7 := idx77_7
  refine wp_loop_rounds 9 ?_
  repeat (rw [rounds_succ]; go_wp2_with fail)
  go_returns
  exact ⟨rfl, (by repeat' (first | (with_reducible exact Grows.refl _) | (with_reducible refine Grows.alloc ?_ _) | (with_reducible refine Grows.drew ?_) | (with_reducible refine Grows.ext ?_ _ _)))⟩
theorem attr_any (m : Int) (w : World) : Calls Try.prog 32 #[.int .i64 m] w (Ret (.bool (oneB m)) w) := by
  by_cases h : m = 1 ∨ m = 2 ∨ m = 4 ∨ m = 8 ∨ m = 16 ∨ m = 32 ∨ m = 64 ∨ m = 128
  · rcases h with rfl | rfl | rfl | rfl | rfl | rfl | rfl | rfl
    · exact attr_1 w
    · exact attr_2 w
    · exact attr_4 w
    · exact attr_8 w
    · exact attr_16 w
    · exact attr_32 w
    · exact attr_64 w
    · exact attr_128 w
  · exact attr_no m h w
end Go.Proofs.Ytafokiobbceibaa
