/-
  Walk: a draft's field.
-/
import Derived.Test.YtepbknpdhiaepaaRows
import Derived.Test.YtepbknpdhiaepaaLt
import Derived.Test.YtepbknpdhiaepaaDefs
import Derived.Test.YtepbknpdhiaepaaW1
import Derived.WalkKit
import Derived.WalkSpells
import Derived.WalkLawsBesides
import Derived.Handy
import Derived.Lib.Hide
import Derived.Deep.Light
import Derived.Deep.LoopGhost
import Derived.BigGuardPart
import Derived.BigQuiet
import Derived.Deep.QuietTactic
import Derived.Deep.RegionHeld3
import Derived.Test.YtepbknpdhiaepaaReg
import Derived.Test.YtepbknpdhiaepaaReg3
namespace Go.Proofs.Ytepbknpdhiaepaa
open Go.RowKit


set_option maxHeartbeats 2000000 in
theorem dfield_any (rows cols top long row col : Int) (o wr : Bool) (h1 : 0 ≤ rows ∧ rows < 256) (h2 : 0 ≤ cols ∧ cols < 256) (h3 : 0 ≤ top ∧ top < 256) (h4 : 0 ≤ long ∧ long < 256) (_h5 : 0 ≤ row ∧ row < 256) (_h6 : 0 ≤ col ∧ col < 256) (w : World) : Calls Try.prog 12 #[.agg #[.int .u8 rows, .int .u8 cols, .int .u8 top, .int .u8 long, .int .u8 row, .int .u8 col, .bool o, .bool wr]] w (Ret (.agg #[.int .i64 (dR rows), .int .i64 (dC cols), .int .i64 (dT rows top long), .int .i64 (dB rows top long), .bool o]) w) := by
  obtain ⟨a1, a2⟩ := h1
  obtain ⟨b1, b2⟩ := h2
  obtain ⟨c1, c2⟩ := h3
  obtain ⟨e1, e2⟩ := h4
  clear _h5 _h6
  cases hd : dX rows long
  · rw [show dB rows top long = 1 + rows % 40 - 1 by unfold dB dR; rw [if_neg (by rw [hd]; exact Bool.false_ne_true)], show dT rows top long = 0 by unfold dT; rw [if_neg (by rw [hd]; exact Bool.false_ne_true)], show dR rows = 1 + rows % 40 from rfl, show dC cols = 2 + cols % 79 from rfl]
    have hd' := dX_false hd
    clear hd
    rcases hd' with hd1 | ⟨hd1, hd2⟩
    all_goals
      go_enter Try.func12, Try.ntmps12
      go_wp2
      go_returns
      exact ⟨rfl, (by repeat' (first | (with_reducible exact Grows.refl _) | (with_reducible refine Grows.alloc ?_ _) | (with_reducible refine Grows.drew ?_) | (with_reducible refine Grows.ext ?_ _ _)))⟩
  · rw [show dB rows top long = dT rows top long + 1 + long % (1 + rows % 40 - 1 - dT rows top long) by (unfold dB dR; rw [if_pos hd]), show dT rows top long = top % (1 + rows % 40 - 1) by (unfold dT dR; rw [if_pos hd]), show dR rows = 1 + rows % 40 from rfl, show dC cols = 2 + cols % 79 from rfl]
    obtain ⟨k1, k2⟩ := dX_true hd
    clear hd
    have q1 := Int.emod_nonneg top (show 1 + rows % 40 - 1 ≠ 0 by omega)
    have q2 := Int.emod_lt_of_pos top (show 0 < 1 + rows % 40 - 1 by omega)
    have q3 := Int.emod_nonneg long (show 1 + rows % 40 - 1 - top % (1 + rows % 40 - 1) ≠ 0 by omega)
    have q4 := Int.emod_lt_of_pos long (show 0 < 1 + rows % 40 - 1 - top % (1 + rows % 40 - 1) by omega)
    go_enter Try.func12, Try.ntmps12
    go_wp2_with fail
    refine wp_region_grow_tail 14 (by kernel_rfl) (by kernel_rfl) ?_
    simp only [List.take_succ_cons, List.take_zero, List.drop_succ_cons, List.drop_zero]
    repeat (first | go_big_quiet_step ((fail)) | quiet_step ((fail)))
    refine wpQuiet_nil ?_
    rintro _ ⟨g50, rfl⟩
    go_wp2
    go_returns
    exact ⟨rfl, (by repeat' (first | (with_reducible exact Grows.refl _) | (with_reducible refine Grows.alloc ?_ _) | (with_reducible refine Grows.drew ?_) | (with_reducible refine Grows.ext ?_ _ _)))⟩
end Go.Proofs.Ytepbknpdhiaepaa
