/-
  Walks: At and CheckAt of the reference.
-/
import Derived.Test.YtepbknpdhiaepaaRows
import Derived.Test.YtepbknpdhiaepaaLt
import Derived.Test.YtepbknpdhiaepaaDefs
import Derived.Test.YtepbknpdhiaepaaW1
import Derived.WalkKit
import Derived.WalkSpells
import Derived.WalkLawsBesides
import Derived.Handy
import Derived.Lib.Hide
import Derived.Deep.Light
import Derived.Deep.LoopGhost
import Derived.BigGuardPart
import Derived.BigQuiet
import Derived.Deep.QuietTactic
import Derived.Deep.RegionHeld3
namespace Go.Proofs.Ytepbknpdhiaepaa
open Go.RowKit


set_option maxHeartbeats 1000000 in
theorem at_any (r c t b x y : Int) (o wr : Bool) (h1 : 2 ≤ c) (h2 : c ≤ 80) (w : World) : Calls Try.prog 45 #[.agg #[.int .i64 r, .int .i64 c, .int .i64 t, .int .i64 b, .bool o], .agg #[.int .i64 x, .int .i64 y, .bool wr]] w (Ret (.bool (atB r c x y wr)) w) := by
  generalize hV : atB r c x y wr = V
  have HV := Lib.hid hV
  clear hV
  go_enter Try.func45, Try.ntmps45
  go_wp2
  all_goals
    go_ret
    refine ⟨ret_bool ?_, (by repeat' (first | (with_reducible exact Grows.refl _) | (with_reducible refine Grows.alloc ?_ _) | (with_reducible refine Grows.drew ?_) | (with_reducible refine Grows.ext ?_ _ _)))⟩
    rw [← HV.out]
    go_light
    unfold atB
    rw [Bool.eq_iff_iff]
    simp_all <;> omega
set_option maxHeartbeats 400000 in
theorem rcheckAt_any (r c t b x y : Int) (o wr : Bool) (w : World) : Calls Try.prog 15 #[.agg #[.int .i64 r, .int .i64 c, .int .i64 t, .int .i64 b, .bool o], .agg #[.int .i64 x, .int .i64 y, .bool wr]] w (Ret (.int .i64 (cErr (okF r c t b) (atB r c x y wr))) w) := by
  cases h : okF r c t b
  · go_enter Try.func15, Try.ntmps15
    go_wp2_with (go_at_call 28; refine (right_any _ _ _ _ _ _).mono ?_; rintro e w' ⟨rfl, h1, d1, rfl⟩)
    go_ret
    exact ⟨rfl, (by repeat' (first | (with_reducible exact Grows.refl _) | (with_reducible refine Grows.alloc ?_ _) | (with_reducible refine Grows.drew ?_) | (with_reducible refine Grows.ext ?_ _ _)))⟩
  · obtain ⟨f1, f2, f3, f4, -⟩ := okF_iff.1 h
    cases ha : atB r c x y wr
    all_goals
      go_enter Try.func15, Try.ntmps15
      go_wp2_with (first | (go_at_call 28; refine (right_any _ _ _ _ _ _).mono ?_; rintro e w' ⟨rfl, h1, d1, rfl⟩) | (go_at_call 45; refine (at_any _ _ _ _ _ _ _ _ f3 f4 _).mono ?_; rintro e w' ⟨rfl, h2, d2, rfl⟩))
      go_ret
      exact ⟨rfl, (by repeat' (first | (with_reducible exact Grows.refl _) | (with_reducible refine Grows.alloc ?_ _) | (with_reducible refine Grows.drew ?_) | (with_reducible refine Grows.ext ?_ _ _)))⟩
end Go.Proofs.Ytepbknpdhiaepaa
