/-
  Walks: Right, both Check functions.
-/
import Derived.Test.YtegpdjiacehkfaaDoorRows
import Derived.Test.YtegpdjiacehkfaaDoorDefs
import Derived.WalkKit
import Derived.WalkSpells
import Derived.WalkLawsBesides
import Derived.Handy
import Derived.Lib.Hide
import Derived.Deep.Light
import Derived.Deep.LoopGhost
import Derived.BigGuardPart
import Derived.BigQuiet
import Derived.Deep.QuietTactic
namespace Go.Proofs.YtegpdjiacehkfaaDoor
open Go.RowKit


set_option maxHeartbeats 400000 in
theorem right_any (a b c d u o : Int) (w : World) :
    Calls Tryd.prog 25 #[.agg #[.int .i64 a, .int .i64 b, .int .i64 c, .int .i64 d, .int .i64 u, .int .i64 o]] w (Ret (.bool (rightB a b c d u o)) w) := by
  go_enter Tryd.func25, Tryd.ntmps25
  go_wp2
  go_loop [3] (fun i => ∃ k : Nat, k ≤ 4 ∧ i = .int .i64 k ∧ upto k a b c d) (fun i => 4 - (intOf i).toNat)
  case atStart => exact ⟨0, by omega, rfl, by simp [upto]⟩
  case round =>
    obtain ⟨k, hk, rfl, hp⟩ := hrel
    have hk : k = 0 ∨ k = 1 ∨ k = 2 ∨ k = 3 ∨ k = 4 := by omega
    rcases hk with rfl | rfl | rfl | rfl | rfl
    all_goals go_wp2
    all_goals first
      | (go_ret; refine ⟨ret_bool ?_, (by repeat' (first | (with_reducible exact Grows.refl _) | (with_reducible refine Grows.alloc ?_ _) | (with_reducible refine Grows.drew ?_) | (with_reducible refine Grows.ext ?_ _ _)))⟩; go_light; simp_all [rightB, ok01, upto]; done)
      | (refine ⟨⟨1, by omega, by go_num, ?_⟩, by simp [intOf]⟩; go_light; simp_all [ok01, upto]; done)
      | (refine ⟨⟨2, by omega, by go_num, ?_⟩, by simp [intOf]⟩; go_light; simp_all [ok01, upto]; done)
      | (refine ⟨⟨3, by omega, by go_num, ?_⟩, by simp [intOf]⟩; go_light; simp_all [ok01, upto]; done)
      | (refine ⟨⟨4, by omega, by go_num, ?_⟩, by simp [intOf]⟩; go_light; simp_all [ok01, upto]; done)
      | (go_ret; refine ⟨ret_bool ?_, (by repeat' (first | (with_reducible exact Grows.refl _) | (with_reducible refine Grows.alloc ?_ _) | (with_reducible refine Grows.drew ?_) | (with_reducible refine Grows.ext ?_ _ _)))⟩; go_light; rw [Bool.eq_iff_iff]; simp_all [rightB, ok01, upto]; done)

set_option maxHeartbeats 400000 in
theorem rcheck_any (a b c d u o : Int) (w : World) :
    Calls Tryd.prog 11 #[.agg #[.int .i64 a, .int .i64 b, .int .i64 c, .int .i64 d, .int .i64 u, .int .i64 o]] w (Ret (.int .i64 (errS (rightB a b c d u o))) w) := by
  cases h : rightB a b c d u o
  all_goals
    go_enter Tryd.func11, Tryd.ntmps11
    go_wp2_with (go_at_call 25; refine (right_any _ _ _ _ _ _ _).mono ?_; rintro e w' ⟨rfl, h1, d1, rfl⟩)
    go_ret
    exact ⟨rfl, (by repeat' (first | (with_reducible exact Grows.refl _) | (with_reducible refine Grows.alloc ?_ _) | (with_reducible refine Grows.drew ?_) | (with_reducible refine Grows.ext ?_ _ _)))⟩

theorem idx22_0 (x0 x1 x2 x3 : Value) (w : World) : (Instr.index 22 (.agg #[x0, x1, x2, x3]) (.int .i64 0)).run Tryd.prog w = .ok x0 w := by kernel_rfl
theorem idx22_1 (x0 x1 x2 x3 : Value) (w : World) : (Instr.index 22 (.agg #[x0, x1, x2, x3]) (.int .i64 1)).run Tryd.prog w = .ok x1 w := by kernel_rfl
theorem idx22_2 (x0 x1 x2 x3 : Value) (w : World) : (Instr.index 22 (.agg #[x0, x1, x2, x3]) (.int .i64 2)).run Tryd.prog w = .ok x2 w := by kernel_rfl
theorem idx22_3 (x0 x1 x2 x3 : Value) (w : World) : (Instr.index 22 (.agg #[x0, x1, x2, x3]) (.int .i64 3)).run Tryd.prog w = .ok x3 w := by kernel_rfl
set_option maxHeartbeats 400000 in
theorem check_any (a b c d u o : Int) (hu : In64 u) (w : World) :
    Calls Tryd.prog 10 #[.agg #[.int .i64 a, .int .i64 b, .int .i64 c, .int .i64 d, .int .i64 u, .int .i64 o]] w (Ret (.int .i64 (errS (rightB a b c d u o))) w) := by
  have hbit := andNot_one hu
  clear hu
  have i0 := idx22_0 (.int .i64 a) (.int .i64 b) (.int .i64 c) (.int .i64 d)
  have i1 := idx22_1 (.int .i64 a) (.int .i64 b) (.int .i64 c) (.int .i64 d)
  have i2 := idx22_2 (.int .i64 a) (.int .i64 b) (.int .i64 c) (.int .i64 d)
  have i3 := idx22_3 (.int .i64 a) (.int .i64 b) (.int .i64 c) (.int .i64 d)
  go_enter Tryd.func10, Tryd.ntmps10
  go_wp2
  go_loop [4, 7] (fun _ i => ∃ k : Nat, k ≤ 4 ∧ i = .int .i64 k ∧ upto k a b c d) (fun _ i => 4 - (intOf i).toNat)
  case atStart => exact ⟨0, by omega, rfl, by simp [upto]⟩
  case round =>
    obtain ⟨k, hk, rfl, hp⟩ := hrel
    have hk : k = 0 ∨ k = 1 ∨ k = 2 ∨ k = 3 ∨ k = 4 := by omega
    rcases hk with rfl | rfl | rfl | rfl | rfl
    all_goals go_wp2
    all_goals first
      | (refine ⟨⟨1, by omega, by go_num, ?_⟩, by simp [intOf]⟩; go_light; simp_all [ok01, upto]; done)
      | (refine ⟨⟨_, _, _, ⟨1, by omega, rfl, ?_⟩, rfl, rfl, rfl⟩, by simp [intOf]⟩; go_light; simp_all [ok01, upto]; done)
      | (refine ⟨⟨2, by omega, by go_num, ?_⟩, by simp [intOf]⟩; go_light; simp_all [ok01, upto]; done)
      | (refine ⟨⟨_, _, _, ⟨2, by omega, rfl, ?_⟩, rfl, rfl, rfl⟩, by simp [intOf]⟩; go_light; simp_all [ok01, upto]; done)
      | (refine ⟨⟨3, by omega, by go_num, ?_⟩, by simp [intOf]⟩; go_light; simp_all [ok01, upto]; done)
      | (refine ⟨⟨_, _, _, ⟨3, by omega, rfl, ?_⟩, rfl, rfl, rfl⟩, by simp [intOf]⟩; go_light; simp_all [ok01, upto]; done)
      | (refine ⟨⟨4, by omega, by go_num, ?_⟩, by simp [intOf]⟩; go_light; simp_all [ok01, upto]; done)
      | (refine ⟨⟨_, _, _, ⟨4, by omega, rfl, ?_⟩, rfl, rfl, rfl⟩, by simp [intOf]⟩; go_light; simp_all [ok01, upto]; done)
      | (go_ret; refine ⟨ret_int ?_, (by repeat' (first | (with_reducible exact Grows.refl _) | (with_reducible refine Grows.alloc ?_ _) | (with_reducible refine Grows.drew ?_) | (with_reducible refine Grows.ext ?_ _ _)))⟩; go_light; refine (congrArg errS (?_ : rightB _ _ _ _ _ _ = false)).symm; rw [Bool.eq_false_iff, ne_eq, rightB_iff]; simp_all [upto, ok01_iff, ok01_false] <;> omega)
      | (go_ret; refine ⟨ret_int ?_, (by repeat' (first | (with_reducible exact Grows.refl _) | (with_reducible refine Grows.alloc ?_ _) | (with_reducible refine Grows.drew ?_) | (with_reducible refine Grows.ext ?_ _ _)))⟩; go_light; refine (congrArg errS (?_ : rightB _ _ _ _ _ _ = true)).symm; rw [rightB_iff]; simp_all [upto, ok01_iff] <;> omega)
end Go.Proofs.YtegpdjiacehkfaaDoor
