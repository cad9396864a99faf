/-
  Walks: clamp and Margins of both.
-/
import Derived.Test.YtepbknpdhiaepaaRows
import Derived.Test.YtepbknpdhiaepaaLt
import Derived.Test.YtepbknpdhiaepaaDefs
import Derived.WalkKit
import Derived.WalkSpells
import Derived.WalkLawsBesides
import Derived.Handy
import Derived.Lib.Hide
import Derived.Deep.Light
import Derived.Deep.LoopGhost
import Derived.BigGuardPart
import Derived.BigQuiet
import Derived.Deep.QuietTactic
import Derived.Deep.RegionHeld3
namespace Go.Proofs.Ytepbknpdhiaepaa
open Go.RowKit


set_option maxHeartbeats 400000 in
theorem clamp_any (n lo hi : Int) (w : World) : Calls Try.prog 56 #[.int .i64 n, .int .i64 lo, .int .i64 hi] w (fun e w' => e = .returned (.int .i64 (cl n lo hi)) ∧ w = w') := by
  go_enter Try.func56, Try.ntmps56
  go_wp2
  all_goals
    go_ret
    refine ⟨ret_int ?_, rfl⟩
    go_light
    unfold cl
    first | omega | (simp at *; omega)
set_option maxHeartbeats 400000 in
theorem rclamp_any (n lo hi : Int) (w : World) : Calls Try.prog 46 #[.int .i64 n, .int .i64 lo, .int .i64 hi] w (fun e w' => e = .returned (.int .i64 (rcl n lo hi)) ∧ w = w') := by
  go_enter Try.func46, Try.ntmps46
  go_wp2
  all_goals
    go_ret
    refine ⟨ret_int ?_, rfl⟩
    go_light
    unfold rcl
    first | omega | ((repeat' split) <;> first | omega | (simp at *; omega))

set_option maxHeartbeats 1000000 in
theorem margins_any (r n m : Int) (hr : In64 r) (hn : In64 n) (hm : In64 m) (w : World) : Calls Try.prog 23 #[.int .i64 r, .int .i64 n, .int .i64 m] w (fun e w' => e = .returned (.tuple #[.int .i64 (sel (mgB r n m) (mgN n - 1)), .int .i64 (sel (mgB r n m) (mgM r m - 1)), .bool (mgB r n m)]) ∧ w = w') := by
  obtain ⟨hr1, hr2⟩ := hr
  obtain ⟨hn1, hn2⟩ := hn
  obtain ⟨hm1, hm2⟩ := hm
  generalize hV : (Value.tuple #[.int .i64 (sel (mgB r n m) (mgN n - 1)), .int .i64 (sel (mgB r n m) (mgM r m - 1)), .bool (mgB r n m)]) = V
  have HV := Lib.hid hV
  clear hV
  go_enter Try.func23, Try.ntmps23
  go_wp2
  all_goals
    go_ret3
    refine ⟨?_, rfl⟩
    rw [← HV.out]
    go_light
    simp only [beq_iff_eq, beq_eq_false_iff_ne, ne_eq] at *
    first
      | (have hN : mgN n = 1 := by (unfold mgN; split <;> omega))
      | (have hN : mgN n = n := by (unfold mgN; split <;> omega))
    first
      | (have hM : mgM r m = r := by (unfold mgM; split <;> omega))
      | (have hM : mgM r m = m := by (unfold mgM; split <;> omega))
    first
      | (have hB : mgB r n m = true := mgB_true (by omega)
         rw [hB]
         exact ret_iib (by simp only [sel, if_true]; omega) (by simp only [sel, if_true]; omega) rfl)
      | (have hB : mgB r n m = false := mgB_false (by omega)
         rw [hB]
         exact ret_iib rfl rfl rfl)

set_option maxHeartbeats 1000000 in
theorem rmargins_any (r n m : Int) (hr : In64 r) (hn : In64 n) (hm : In64 m) (w : World) : Calls Try.prog 24 #[.int .i64 r, .int .i64 n, .int .i64 m] w (fun e w' => e = .returned (.tuple #[.int .i64 (sel (mgB r n m) (mgN n - 1)), .int .i64 (sel (mgB r n m) (mgM r m - 1)), .bool (mgB r n m)]) ∧ w = w') := by
  obtain ⟨hr1, hr2⟩ := hr
  obtain ⟨hn1, hn2⟩ := hn
  obtain ⟨hm1, hm2⟩ := hm
  generalize hV : (Value.tuple #[.int .i64 (sel (mgB r n m) (mgN n - 1)), .int .i64 (sel (mgB r n m) (mgM r m - 1)), .bool (mgB r n m)]) = V
  have HV := Lib.hid hV
  clear hV
  go_enter Try.func24, Try.ntmps24
  go_wp2
  all_goals
    go_ret3
    refine ⟨?_, rfl⟩
    rw [← HV.out]
    go_light
    simp only [beq_iff_eq, beq_eq_false_iff_ne, ne_eq] at *
    first
      | (have hN : mgN n = 1 := by (unfold mgN; split <;> omega))
      | (have hN : mgN n = n := by (unfold mgN; split <;> omega))
    first
      | (have hM : mgM r m = r := by (unfold mgM; split <;> omega))
      | (have hM : mgM r m = m := by (unfold mgM; split <;> omega))
    first
      | (have hB : mgB r n m = true := mgB_true (by omega)
         rw [hB]
         exact ret_iib (by simp only [sel, if_true]; omega) (by simp only [sel, if_true]; omega) rfl)
      | (have hB : mgB r n m = false := mgB_false (by omega)
         rw [hB]
         exact ret_iib rfl rfl rfl)
end Go.Proofs.Ytepbknpdhiaepaa
