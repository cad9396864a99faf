/-
  Indexes.
-/
import Derived.Test.YtepbknpdhiaepaaRows
import Derived.Test.YtepbknpdhiaepaaLt
import Derived.Test.YtepbknpdhiaepaaDefs
import Derived.WalkKit
import Derived.WalkSpells
import Derived.WalkLawsBesides
import Derived.Handy
import Derived.Lib.Hide
import Derived.Deep.Light
import Derived.Deep.LoopGhost
import Derived.BigGuardPart
import Derived.BigQuiet
import Derived.Deep.QuietTactic
import Derived.Deep.RegionHeld3
import Derived.Test.YtepbknpdhiaepaaReg
import Derived.Test.YtepbknpdhiaepaaReg3
namespace Go.Proofs.Ytepbknpdhiaepaa
open Go.RowKit


theorem idx31_0 (x0 x1 x2 x3 x4 x5 x6 x7 x8 x9 : Value) (w : World) : (Instr.index 31 (.agg #[x0, x1, x2, x3, x4, x5, x6, x7, x8, x9]) (.int .i64 0)).run Try.prog w = .ok (.agg #[x0, x1, x2, x3, x4]) w := by kernel_rfl
theorem idx31_1 (x0 x1 x2 x3 x4 x5 x6 x7 x8 x9 : Value) (w : World) : (Instr.index 31 (.agg #[x0, x1, x2, x3, x4, x5, x6, x7, x8, x9]) (.int .i64 1)).run Try.prog w = .ok (.agg #[x5, x6, x7, x8, x9]) w := by kernel_rfl
theorem index31 (r c t b r' c' t' b' : Int) (o o' : Bool) (k : Nat) (hk : k < 2) : ∃ (r2 c2 t2 b2 : Int) (o2 : Bool), ∀ w, (Instr.index 31 (.agg #[.int .i64 r, .int .i64 c, .int .i64 t, .int .i64 b, .bool o, .int .i64 r', .int .i64 c', .int .i64 t', .int .i64 b', .bool o']) (.int .i64 k)).run Try.prog w = .ok (.agg #[.int .i64 r2, .int .i64 c2, .int .i64 t2, .int .i64 b2, .bool o2]) w := by
  have hk : k = 0 ∨ k = 1 := by omega
  rcases hk with rfl | rfl
  · exact ⟨r, c, t, b, o, fun w => idx31_0 _ _ _ _ _ _ _ _ _ _ w⟩
  · exact ⟨r', c', t', b', o', fun w => idx31_1 _ _ _ _ _ _ _ _ _ _ w⟩
theorem idx34_0 (x0 x1 x2 x3 x4 x5 : Value) (w : World) : (Instr.index 34 (.agg #[x0, x1, x2, x3, x4, x5]) (.int .i64 0)).run Try.prog w = .ok (.agg #[x0, x1, x2]) w := by kernel_rfl
theorem idx34_1 (x0 x1 x2 x3 x4 x5 : Value) (w : World) : (Instr.index 34 (.agg #[x0, x1, x2, x3, x4, x5]) (.int .i64 1)).run Try.prog w = .ok (.agg #[x3, x4, x5]) w := by kernel_rfl
theorem index34 (x y x' y' : Int) (g g' : Bool) (k : Nat) (hk : k < 2) : ∃ (x2 y2 : Int) (g2 : Bool), ∀ w, (Instr.index 34 (.agg #[.int .i64 x, .int .i64 y, .bool g, .int .i64 x', .int .i64 y', .bool g']) (.int .i64 k)).run Try.prog w = .ok (.agg #[.int .i64 x2, .int .i64 y2, .bool g2]) w := by
  have hk : k = 0 ∨ k = 1 := by omega
  rcases hk with rfl | rfl
  · exact ⟨x, y, g, fun w => idx34_0 _ _ _ _ _ _ w⟩
  · exact ⟨x', y', g', fun w => idx34_1 _ _ _ _ _ _ w⟩
theorem idx38_0 (x0 x1 x2 : Value) (w : World) : (Instr.index 38 (.agg #[x0, x1, x2]) (.int .i64 0)).run Try.prog w = .ok x0 w := by kernel_rfl
theorem idx38_1 (x0 x1 x2 : Value) (w : World) : (Instr.index 38 (.agg #[x0, x1, x2]) (.int .i64 1)).run Try.prog w = .ok x1 w := by kernel_rfl
theorem idx38_2 (x0 x1 x2 : Value) (w : World) : (Instr.index 38 (.agg #[x0, x1, x2]) (.int .i64 2)).run Try.prog w = .ok x2 w := by kernel_rfl
theorem index38 (a b c : Int) (k : Nat) (hk : k < 3) : ∃ z : Int, ∀ w, (Instr.index 38 (.agg #[.int .i64 a, .int .i64 b, .int .i64 c]) (.int .i64 k)).run Try.prog w = .ok (.int .i64 z) w := by
  have hk : k = 0 ∨ k = 1 ∨ k = 2 := by omega
  rcases hk with rfl | rfl | rfl
  · exact ⟨a, fun w => idx38_0 _ _ _ w⟩
  · exact ⟨b, fun w => idx38_1 _ _ _ w⟩
  · exact ⟨c, fun w => idx38_2 _ _ _ w⟩
end Go.Proofs.Ytepbknpdhiaepaa
