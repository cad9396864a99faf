/-
  Walk: works.
-/
import Derived.Test.YtegpdjiacehkfaaDoorRows
import Derived.Test.YtegpdjiacehkfaaDoorDefs
import Derived.Test.YtegpdjiacehkfaaDoorW5
import Derived.Test.YtegpdjiacehkfaaDoorW7
import Derived.Test.YtegpdjiacehkfaaDoorW8
import Derived.Test.YtegpdjiacehkfaaDoorW9
import Derived.Test.YtegpdjiacehkfaaDoorW10
import Derived.WalkKit
import Derived.WalkSpells
import Derived.WalkLawsBesides
import Derived.Handy
import Derived.Lib.Hide
import Derived.Deep.Light
import Derived.Deep.LoopGhost
import Derived.BigGuardPart
import Derived.BigQuiet
import Derived.Deep.QuietTactic
namespace Go.Proofs.YtegpdjiacehkfaaDoor
open Go.RowKit


set_option maxRecDepth 100000 in
set_option maxHeartbeats 4000000 in
theorem works_true (w : World) (hg : SG w) : Calls Tryd.prog 14 #[] w (Ret (.bool true) w) := by
  go_enter Tryd.func14, Tryd.ntmps14
  go_wp2_with fail
  refine (show Calls Tryd.prog 15 #[.agg #[.int .i64 0, .int .i64 0, .int .i64 0, .int .i64 0, .int .i64 0, .int .i64 0], .int .i64 1, .int .i64 1] _ (Ret (.tuple #[.agg #[.int .i64 0, .int .i64 1, .int .i64 0, .int .i64 0, .int .i64 0, .int .i64 0], .int .i64 0]) _) from choose_ok 0 0 0 0 0 0 1 1 (by unfold In64; omega) rfl (by omega) (by omega) _).mono ?_
  rintro e w' ⟨rfl, h1, d1, rfl⟩
  go_wp2_with fail
  refine (show Calls Tryd.prog 17 #[.agg #[.int .i64 0, .int .i64 1, .int .i64 0, .int .i64 0, .int .i64 0, .int .i64 0], .int .i64 1] _ (Ret (.tuple #[.agg #[.int .i64 0, .int .i64 1, .int .i64 0, .int .i64 0, .int .i64 1, .int .i64 0], .int .i64 0]) _) from lock_ok 0 1 0 0 0 0 1 (by unfold In64; omega) rfl (by omega) _).mono ?_
  rintro e w' ⟨rfl, h1, d1, rfl⟩
  go_wp2_with fail
  refine (show Calls Tryd.prog 24 #[.agg #[.int .i64 0, .int .i64 1, .int .i64 0, .int .i64 0, .int .i64 1, .int .i64 0], .int .i64 113] _ (Ret (.tuple #[.int .i64 9472, .agg #[.int .i64 0, .int .i64 1, .int .i64 0, .int .i64 0, .int .i64 1, .int .i64 0]]) _) from lshown_yes 0 1 0 0 1 0 113 rfl _ (hg.grows (by repeat' (first | (with_reducible exact Grows.refl _) | (with_reducible refine Grows.alloc ?_ _) | (with_reducible refine Grows.drew ?_) | (with_reducible refine Grows.ext ?_ _ _))))).mono ?_
  rintro e w' ⟨rfl, h1, d1, rfl⟩
  go_wp2_with fail
  refine (show Calls Tryd.prog 24 #[.agg #[.int .i64 0, .int .i64 1, .int .i64 0, .int .i64 0, .int .i64 1, .int .i64 0], .int .i64 65] _ (Ret (.tuple #[.int .i64 65, .agg #[.int .i64 0, .int .i64 1, .int .i64 0, .int .i64 0, .int .i64 1, .int .i64 0]]) _) from lshown_yes 0 1 0 0 1 0 65 rfl _ (hg.grows (by repeat' (first | (with_reducible exact Grows.refl _) | (with_reducible refine Grows.alloc ?_ _) | (with_reducible refine Grows.drew ?_) | (with_reducible refine Grows.ext ?_ _ _))))).mono ?_
  rintro e w' ⟨rfl, h1, d1, rfl⟩
  go_wp2_with fail
  refine (show Calls Tryd.prog 15 #[.agg #[.int .i64 0, .int .i64 0, .int .i64 0, .int .i64 0, .int .i64 0, .int .i64 0], .int .i64 2, .int .i64 1] _ (Ret (.tuple #[.agg #[.int .i64 0, .int .i64 0, .int .i64 1, .int .i64 0, .int .i64 0, .int .i64 0], .int .i64 0]) _) from choose_ok 0 0 0 0 0 0 2 1 (by unfold In64; omega) rfl (by omega) (by omega) _).mono ?_
  rintro e w' ⟨rfl, h1, d1, rfl⟩
  go_wp2_with fail
  refine (show Calls Tryd.prog 19 #[.agg #[.int .i64 0, .int .i64 0, .int .i64 1, .int .i64 0, .int .i64 0, .int .i64 0], .int .i64 2] _ (Ret (.tuple #[.agg #[.int .i64 0, .int .i64 0, .int .i64 1, .int .i64 0, .int .i64 0, .int .i64 2], .int .i64 0]) _) from single_ok 0 0 1 0 0 0 2 (by unfold In64; omega) rfl (by omega) _).mono ?_
  rintro e w' ⟨rfl, h1, d1, rfl⟩
  go_wp2_with fail
  refine (show Calls Tryd.prog 24 #[.agg #[.int .i64 0, .int .i64 0, .int .i64 1, .int .i64 0, .int .i64 0, .int .i64 2], .int .i64 120] _ (Ret (.tuple #[.int .i64 9474, .agg #[.int .i64 0, .int .i64 0, .int .i64 1, .int .i64 0, .int .i64 0, .int .i64 0]]) _) from lshown_yes 0 0 1 0 0 2 120 rfl _ (hg.grows (by repeat' (first | (with_reducible exact Grows.refl _) | (with_reducible refine Grows.alloc ?_ _) | (with_reducible refine Grows.drew ?_) | (with_reducible refine Grows.ext ?_ _ _))))).mono ?_
  rintro e w' ⟨rfl, h1, d1, rfl⟩
  go_wp2_with fail
  refine (show Calls Tryd.prog 24 #[.agg #[.int .i64 0, .int .i64 0, .int .i64 1, .int .i64 0, .int .i64 0, .int .i64 0], .int .i64 120] _ (Ret (.tuple #[.int .i64 120, .agg #[.int .i64 0, .int .i64 0, .int .i64 1, .int .i64 0, .int .i64 0, .int .i64 0]]) _) from lshown_yes 0 0 1 0 0 0 120 rfl _ (hg.grows (by repeat' (first | (with_reducible exact Grows.refl _) | (with_reducible refine Grows.alloc ?_ _) | (with_reducible refine Grows.drew ?_) | (with_reducible refine Grows.ext ?_ _ _))))).mono ?_
  rintro e w' ⟨rfl, h1, d1, rfl⟩
  go_wp2_with fail
  refine (show Calls Tryd.prog 15 #[.agg #[.int .i64 0, .int .i64 0, .int .i64 0, .int .i64 0, .int .i64 0, .int .i64 0], .int .i64 4, .int .i64 0] _ (Ret (.tuple #[.agg #[.int .i64 0, .int .i64 0, .int .i64 0, .int .i64 0, .int .i64 0, .int .i64 0], .int .i64 2]) _) from choose_num 0 0 0 0 0 0 4 0 (by unfold In64; omega) rfl (by omega) (by omega) _).mono ?_
  rintro e w' ⟨rfl, h1, d1, rfl⟩
  go_wp2_with fail
  refine (show Calls Tryd.prog 15 #[.agg #[.int .i64 0, .int .i64 0, .int .i64 0, .int .i64 0, .int .i64 0, .int .i64 0], .int .i64 0, .int .i64 2] _ (Ret (.tuple #[.agg #[.int .i64 0, .int .i64 0, .int .i64 0, .int .i64 0, .int .i64 0, .int .i64 0], .int .i64 2]) _) from choose_kind 0 0 0 0 0 0 0 2 (by unfold In64; omega) rfl  (by omega) _).mono ?_
  rintro e w' ⟨rfl, h1, d1, rfl⟩
  go_wp2_with fail
  refine (show Calls Tryd.prog 17 #[.agg #[.int .i64 0, .int .i64 0, .int .i64 0, .int .i64 0, .int .i64 0, .int .i64 0], .int .i64 2] _ (Ret (.tuple #[.agg #[.int .i64 0, .int .i64 0, .int .i64 0, .int .i64 0, .int .i64 0, .int .i64 0], .int .i64 2]) _) from lock_bad 0 0 0 0 0 0 2 (by unfold In64; omega) rfl (by omega) _).mono ?_
  rintro e w' ⟨rfl, h1, d1, rfl⟩
  go_wp2_with fail
  refine (show Calls Tryd.prog 19 #[.agg #[.int .i64 0, .int .i64 0, .int .i64 0, .int .i64 0, .int .i64 0, .int .i64 0], .int .i64 1] _ (Ret (.tuple #[.agg #[.int .i64 0, .int .i64 0, .int .i64 0, .int .i64 0, .int .i64 0, .int .i64 0], .int .i64 2]) _) from single_bad 0 0 0 0 0 0 1 (by unfold In64; omega) rfl (by omega) _).mono ?_
  rintro e w' ⟨rfl, h1, d1, rfl⟩
  go_wp2_with fail
  refine (show Calls Tryd.prog 22 #[.int .i64 9492] _ (Ret (.tuple #[.int .i64 109, .bool true]) _) from code_hit 9492 14 (by omega) rfl _ (hg.grows (by repeat' (first | (with_reducible exact Grows.refl _) | (with_reducible refine Grows.alloc ?_ _) | (with_reducible refine Grows.drew ?_) | (with_reducible refine Grows.ext ?_ _ _))))).mono ?_
  rintro e w' ⟨rfl, h1, d1, rfl⟩
  go_wp2_with fail
  refine (show Calls Tryd.prog 22 #[.int .i64 163] _ (Ret (.tuple #[.int .i64 125, .bool true]) _) from code_hit 163 30 (by omega) rfl _ (hg.grows (by repeat' (first | (with_reducible exact Grows.refl _) | (with_reducible refine Grows.alloc ?_ _) | (with_reducible refine Grows.drew ?_) | (with_reducible refine Grows.ext ?_ _ _))))).mono ?_
  rintro e w' ⟨rfl, h1, d1, rfl⟩
  go_wp2_with fail
  refine (show Calls Tryd.prog 22 #[.int .i64 32] _ (Ret (.tuple #[.int .i64 95, .bool true]) _) from code_hit 32 0 (by omega) rfl _ (hg.grows (by repeat' (first | (with_reducible exact Grows.refl _) | (with_reducible refine Grows.alloc ?_ _) | (with_reducible refine Grows.drew ?_) | (with_reducible refine Grows.ext ?_ _ _))))).mono ?_
  rintro e w' ⟨rfl, h1, d1, rfl⟩
  go_wp2_with fail
  refine (show Calls Tryd.prog 22 #[.int .i64 65] _ (Ret (.tuple #[.int .i64 0, .bool false]) _) from code_miss 65 (by decide) _ (hg.grows (by repeat' (first | (with_reducible exact Grows.refl _) | (with_reducible refine Grows.alloc ?_ _) | (with_reducible refine Grows.drew ?_) | (with_reducible refine Grows.ext ?_ _ _))))).mono ?_
  rintro e w' ⟨rfl, h1, d1, rfl⟩
  go_wp2_with fail
  go_ret
  exact ⟨rfl, (by repeat' (first | (with_reducible exact Grows.refl _) | (with_reducible refine Grows.alloc ?_ _) | (with_reducible refine Grows.drew ?_) | (with_reducible refine Grows.ext ?_ _ _)))⟩
end Go.Proofs.YtegpdjiacehkfaaDoor
