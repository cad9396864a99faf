/-
  Walk: Seen of the reference.
-/
import Derived.Test.YtafokiobbceibaaRows
import Derived.Test.YtafokiobbceibaaLt
import Derived.Test.YtafokiobbceibaaDefs
import Derived.Test.YtafokiobbceibaaBits
import Derived.Test.YtafokiobbceibaaMaps
import Derived.Test.YtafokiobbceibaaW10
import Derived.WalkKit
import Derived.WalkSpells
import Derived.WalkLawsBesides
import Derived.Handy
import Derived.Laws.EntriesVeiled
import Derived.Lib.Hide
import Derived.Deep.Light
import Derived.Deep.LoopGhost
import Derived.BigGuardPart
import Derived.BigQuiet
import Derived.Deep.QuietTactic
import Derived.Deep.RegionHeld3
import Derived.Test.YtafokiobbceibaaReg
import Derived.Test.YtafokiobbceibaaReg3
import Derived.Test.YtafokiobbceibaaReg4
namespace Go.Proofs.Ytafokiobbceibaa
open Go.RowKit


set_option maxHeartbeats 2000000 in
theorem rseen_any (a u fk fn bk bn lk ln : Int) (w : World) : Calls Try.prog 25 #[.agg #[.int .i64 a, .int .i64 u, .int .i64 fk, .int .i64 fn, .int .i64 bk, .int .i64 bn, .int .i64 lk, .int .i64 ln]] w (Ret (seenV a fk fn bk bn) w) := by
  unfold seenV
  cases e1 : invB a
  all_goals cases e2 : hidB a
  all_goals
    unfold invB at e1
    unfold hidB at e2
    simp only [pick2, beq_self_eq_true, Bool.false_beq, Bool.true_beq, Bool.not_true, Bool.false_eq_true, if_true, if_false]
    go_enter Try.func25, Try.ntmps25
    go_wp2_with fail
    all_goals go_region
    all_goals go_wp2_with fail
    all_goals go_region
    all_goals go_wp2
    all_goals go_returns
    all_goals exact ⟨rfl, (by repeat' (first | (with_reducible exact Grows.refl _) | (with_reducible refine Grows.alloc ?_ _) | (with_reducible refine Grows.drew ?_) | (with_reducible refine Grows.ext ?_ _ _)))⟩
end Go.Proofs.Ytafokiobbceibaa
