/-
  Walk: the law SetsRun, an empty slice.
-/
import Derived.Test.YtegpdjiacehkfaaDoorRows
import Derived.Test.YtegpdjiacehkfaaDoorArr
import Derived.Test.YtegpdjiacehkfaaDoorLt
import Derived.Test.YtegpdjiacehkfaaDoorDefs
import Derived.Test.YtegpdjiacehkfaaDoorW1
import Derived.Test.YtegpdjiacehkfaaDoorW5
import Derived.Test.YtegpdjiacehkfaaDoorW7
import Derived.Test.YtegpdjiacehkfaaDoorW8
import Derived.Test.YtegpdjiacehkfaaDoorW9
import Derived.Test.YtegpdjiacehkfaaDoorW10
import Derived.Test.YtegpdjiacehkfaaDoorW11
import Derived.Test.YtegpdjiacehkfaaDoorW12
import Derived.Test.YtegpdjiacehkfaaDoorW15
import Derived.WalkKit
import Derived.WalkSpells
import Derived.WalkLawsBesides
import Derived.Handy
import Derived.Lib.Hide
import Derived.Deep.Light
import Derived.Deep.LoopGhost
import Derived.BigGuardPart
import Derived.BigQuiet
import Derived.Deep.QuietTactic
namespace Go.Proofs.YtegpdjiacehkfaaDoor
open Go.RowKit


set_option maxRecDepth 100000 in
set_option maxHeartbeats 2000000 in
theorem run_nil (oa : Option Addr) (cap : Nat) (w : World) (hg : SG w) : Calls Tryd.prog 6 #[.slice oa 0 cap] w (Ret (.bool true) w) := by
  go_enter Tryd.func6, Tryd.ntmps6
  go_wp2_with fail
  refine (works_true _ (hg.grows (by repeat' (first | (with_reducible exact Grows.refl _) | (with_reducible refine Grows.alloc ?_ _) | (with_reducible refine Grows.drew ?_) | (with_reducible refine Grows.ext ?_ _ _))))).mono ?_
  rintro e w' ⟨rfl, h1, d1, rfl⟩
  go_wp2_with fail
  go_loopw [7] (fun i wr => i = .int .i64 0 ∧ Grows w wr) (fun i _ => 40 - (intOf i).toNat)
  case atStart => exact ⟨rfl, (by repeat' (first | (with_reducible exact Grows.refl _) | (with_reducible refine Grows.alloc ?_ _) | (with_reducible refine Grows.drew ?_) | (with_reducible refine Grows.ext ?_ _ _)))⟩
  case round =>
    obtain ⟨rfl, h2, d2, rfl⟩ := hrel
    go_wp2
    go_ret
    exact ⟨rfl, (by repeat' (first | (with_reducible exact Grows.refl _) | (with_reducible refine Grows.alloc ?_ _) | (with_reducible refine Grows.drew ?_) | (with_reducible refine Grows.ext ?_ _ _)))⟩
end Go.Proofs.YtegpdjiacehkfaaDoor
