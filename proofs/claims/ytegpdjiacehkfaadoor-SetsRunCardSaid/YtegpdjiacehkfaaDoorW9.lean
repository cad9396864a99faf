/-
  Walks: Code of both, Of, shown.
-/
import Derived.Test.YtegpdjiacehkfaaDoorRows
import Derived.Test.YtegpdjiacehkfaaDoorDefs
import Derived.Test.YtegpdjiacehkfaaDoorW1
import Derived.Test.YtegpdjiacehkfaaDoorW2
import Derived.Test.YtegpdjiacehkfaaDoorW5
import Derived.WalkKit
import Derived.WalkSpells
import Derived.WalkLawsBesides
import Derived.Handy
import Derived.Lib.Hide
import Derived.Deep.Light
import Derived.Deep.LoopGhost
import Derived.BigGuardPart
import Derived.BigQuiet
import Derived.Deep.QuietTactic
namespace Go.Proofs.YtegpdjiacehkfaaDoor
open Go.RowKit


theorem index52 (k : Nat) (hk : k < 32) (w : World) : (Instr.index 52 (.agg signsA) (.int .i64 k)).run Tryd.prog w = .ok (.int .i64 (signAt k)) w := by
  have hk : k = 0 ∨ k = 1 ∨ k = 2 ∨ k = 3 ∨ k = 4 ∨ k = 5 ∨ k = 6 ∨ k = 7 ∨ k = 8 ∨ k = 9 ∨ k = 10 ∨ k = 11 ∨ k = 12 ∨ k = 13 ∨ k = 14 ∨ k = 15 ∨ k = 16 ∨ k = 17 ∨ k = 18 ∨ k = 19 ∨ k = 20 ∨ k = 21 ∨ k = 22 ∨ k = 23 ∨ k = 24 ∨ k = 25 ∨ k = 26 ∨ k = 27 ∨ k = 28 ∨ k = 29 ∨ k = 30 ∨ k = 31 := by omega
  rcases hk with rfl | rfl | rfl | rfl | rfl | rfl | rfl | rfl | rfl | rfl | rfl | rfl | rfl | rfl | rfl | rfl | rfl | rfl | rfl | rfl | rfl | rfl | rfl | rfl | rfl | rfl | rfl | rfl | rfl | rfl | rfl | rfl
  all_goals (show _ = _; kernel_rfl)
theorem info52 : (Tryd.prog.info? 52).map (·.size) = some signsA.size := by kernel_rfl

set_option maxHeartbeats 400000 in
theorem code_hit (sign : Int) (n : Nat) (hn : n < 32) (hs : signAt n = sign) (w : World) (hg : SG w) :
    Calls Tryd.prog 22 #[.int .i64 sign] w (Ret (.tuple #[.int .i64 (95 + n), .bool true]) w) := by
  obtain ⟨t, fr, hg⟩ := hg
  have Hg := Lib.hid hg
  clear hg
  go_enter Tryd.func22, Tryd.ntmps22
  go_wp2_with (refine wpList_load_row rfl 52 _ rfl 0 rfl t _ fr _ Hg.out Tryd.underlying52 rfl info52 ?_)
  go_loop [4, 5, 7] (fun _ _ i => ∃ k : Nat, k ≤ n ∧ i = .int .i64 k) (fun _ _ i => n - (intOf i).toNat)
  case atStart => exact ⟨0, by omega, rfl⟩
  case round =>
    obtain ⟨k, hk, rfl⟩ := hrel
    have hix := index52 k (by omega)
    by_cases hkn : k = n
    · subst hkn
      have he : (signAt k == sign) = true := by rw [hs]; simp
      clear hs
      have hlt : decide ((k : Int) < 32) = true := by simp; omega
      go_wp2
      go_ret2
      exact ⟨rfl, (by repeat' (first | (with_reducible exact Grows.refl _) | (with_reducible refine Grows.alloc ?_ _) | (with_reducible refine Grows.drew ?_) | (with_reducible refine Grows.ext ?_ _ _)))⟩
    · have he : (signAt k == sign) = false := by
        rw [← hs, beq_eq_false_iff_ne]
        intro e
        exact hkn (signAt_inj k n (by omega) hn e)
      clear hs
      have hlt : decide ((k : Int) < 32) = true := by simp; omega
      go_wp2
      go_round
      case rel => exact ⟨k + 1, by omega, by go_num⟩
      case measure => simp [intOf]; omega
end Go.Proofs.YtegpdjiacehkfaaDoor
