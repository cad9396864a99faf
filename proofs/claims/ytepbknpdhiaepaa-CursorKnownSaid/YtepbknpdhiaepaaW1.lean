/-
  Walks: Right and Check.
-/
import Derived.Test.YtepbknpdhiaepaaRows
import Derived.Test.YtepbknpdhiaepaaLt
import Derived.Test.YtepbknpdhiaepaaDefs
import Derived.WalkKit
import Derived.WalkSpells
import Derived.WalkLawsBesides
import Derived.Handy
import Derived.Lib.Hide
import Derived.Deep.Light
import Derived.Deep.LoopGhost
import Derived.BigGuardPart
import Derived.BigQuiet
import Derived.Deep.QuietTactic
import Derived.Deep.RegionHeld3
namespace Go.Proofs.Ytepbknpdhiaepaa
open Go.RowKit


set_option maxHeartbeats 1000000 in
theorem right_any (r c t b : Int) (o : Bool) (w : World) : Calls Try.prog 28 #[.agg #[.int .i64 r, .int .i64 c, .int .i64 t, .int .i64 b, .bool o]] w (Ret (.bool (okF r c t b)) w) := by
  go_enter Try.func28, Try.ntmps28
  go_wp2
  all_goals first
    | (go_ret; refine ⟨ret_bool ?_, (by repeat' (first | (with_reducible exact Grows.refl _) | (with_reducible refine Grows.alloc ?_ _) | (with_reducible refine Grows.drew ?_) | (with_reducible refine Grows.ext ?_ _ _)))⟩; go_light; unfold okF; rw [Bool.eq_iff_iff]; simp_all <;> omega)
    | go_ways
set_option maxHeartbeats 2000000 in
theorem check_any (r c t b : Int) (o : Bool) (w : World) : Calls Try.prog 33 #[.agg #[.int .i64 r, .int .i64 c, .int .i64 t, .int .i64 b, .bool o]] w (Ret (.int .i64 (fErr (okF r c t b))) w) := by
  go_enter Try.func33, Try.ntmps33
  go_wp2
  all_goals first
    | (go_ret; refine ⟨ret_int ?_, (by repeat' (first | (with_reducible exact Grows.refl _) | (with_reducible refine Grows.alloc ?_ _) | (with_reducible refine Grows.drew ?_) | (with_reducible refine Grows.ext ?_ _ _)))⟩; go_light; refine (congrArg fErr (?_ : okF _ _ _ _ = false)).symm; unfold okF; rw [decide_eq_false_iff_not]; simp_all <;> omega)
    | (go_ret; refine ⟨ret_int ?_, (by repeat' (first | (with_reducible exact Grows.refl _) | (with_reducible refine Grows.alloc ?_ _) | (with_reducible refine Grows.drew ?_) | (with_reducible refine Grows.ext ?_ _ _)))⟩; go_light; refine (congrArg fErr (?_ : okF _ _ _ _ = true)).symm; unfold okF; rw [decide_eq_true_eq]; simp_all <;> omega)
    | go_ways
end Go.Proofs.Ytepbknpdhiaepaa
