/-
  Walk: the law SetsOnce.
-/
import Derived.Test.YtegpdjiacehkfaaDoorRows
import Derived.Test.YtegpdjiacehkfaaDoorArr
import Derived.Test.YtegpdjiacehkfaaDoorLt
import Derived.Test.YtegpdjiacehkfaaDoorDefs
import Derived.Test.YtegpdjiacehkfaaDoorW2
import Derived.Test.YtegpdjiacehkfaaDoorW7
import Derived.Test.YtegpdjiacehkfaaDoorW9
import Derived.Test.YtegpdjiacehkfaaDoorW10
import Derived.Test.YtegpdjiacehkfaaDoorW11
import Derived.WalkKit
import Derived.WalkSpells
import Derived.WalkLawsBesides
import Derived.Handy
import Derived.Lib.Hide
import Derived.Deep.Light
import Derived.Deep.LoopGhost
import Derived.BigGuardPart
import Derived.BigQuiet
import Derived.Deep.QuietTactic
namespace Go.Proofs.YtegpdjiacehkfaaDoor
open Go.RowKit


theorem of_gen (b : Int) (h0 : 0 ≤ b) (h1 : b < 256) : ∃ g0 g1 g2 g3 u o : Int, rightB g0 g1 g2 g3 u o = true ∧ ∀ w, Calls Tryd.prog 9 #[.int .u8 b] w (Ret (.agg #[.int .i64 g0, .int .i64 g1, .int .i64 g2, .int .i64 g3, .int .i64 u, .int .i64 o]) w) :=
  ⟨_, _, _, _, _, _, rightB_of b h0, of_any b h0 h1⟩
theorem code_at (k : Nat) (hk : k < 32) (w : World) (hg : SG w) : Calls Tryd.prog 22 #[.int .i64 (signAt k)] w (Ret (.tuple #[.int .i64 ((k : Int) + 95), .bool true]) w) := by
  rw [Int.add_comm]
  exact code_hit (signAt k) k hk rfl w hg
def onceGoal (i b x y : Int) (w : World) : Prop := Calls Tryd.prog 7 #[.int .u8 b, .int .u8 i, .agg #[.int .i64 x, .int .i64 y]] w (Ret (.bool true) w)

set_option maxRecDepth 100000 in
set_option maxHeartbeats 4000000 in
theorem once_0_2 (i b x y g0 g1 g2 g3 o : Int) (hi0 : 0 ≤ i) (hi1 : i < 256) (hi : i % 2 = 0) (hr : rightB g0 g1 g2 g3 0 o = true) (hof : ∀ w, Calls Tryd.prog 9 #[.int .u8 b] w (Ret (.agg #[.int .i64 g0, .int .i64 g1, .int .i64 g2, .int .i64 g3, .int .i64 0, .int .i64 o]) w)) (w : World) (hg : SG w) : onceGoal i b x y w := by
  obtain ⟨p0, p1, p2, p3, -, -⟩ := rightB_iff.1 hr
  have Hof := Lib.hid hof
  have hq : signOf g0 g1 g2 g3 0 2 x = signOf g2 g1 g2 g3 0 0 x := by simp [signOf, lineB, gAt]
  have Hq := Lib.hid hq
  have q1 : rightB g0 g1 g2 g3 0 0 = true := rightB_iff.2 ⟨p0, p1, p2, p3, by omega, by omega⟩
  have q2 : rightB g0 g1 g2 g3 0 2 = true := rightB_iff.2 ⟨p0, p1, p2, p3, by omega, by omega⟩
  have q3 : rightB g2 g1 g2 g3 0 0 = true := rightB_iff.2 ⟨by omega, by omega, by omega, by omega, by omega, by omega⟩
  have hiu : In64 0 := by unfold In64; omega
  have heq := arr_eq_at
  clear hof hq hr p0 p1 p2 p3
  unfold onceGoal
  go_enter Tryd.func7, Tryd.ntmps7
  go_wp2_with fail
  refine (works_true _ (hg.grows (by repeat' (first | (with_reducible exact Grows.refl _) | (with_reducible refine Grows.alloc ?_ _) | (with_reducible refine Grows.drew ?_) | (with_reducible refine Grows.ext ?_ _ _))))).mono ?_
  rintro e w' ⟨rfl, h1, d1, rfl⟩
  go_wp2_with fail
  refine (Hof.out _).mono ?_
  rintro e w' ⟨rfl, h2, d2, rfl⟩
  go_wp2_with fail
  refine (single_ok _ _ _ _ _ _ _ hiu q1 (by omega) _).mono ?_
  rintro e w' ⟨rfl, h3, d3, rfl⟩
  go_wp2_with fail
  refine (lshown_yes _ _ _ _ _ _ _ q2 _ (hg.grows (by repeat' (first | (with_reducible exact Grows.refl _) | (with_reducible refine Grows.alloc ?_ _) | (with_reducible refine Grows.drew ?_) | (with_reducible refine Grows.ext ?_ _ _))))).mono ?_
  rintro e w' ⟨rfl, h4, d4, rfl⟩
  go_wp2_with fail
  refine (lshown_yes _ _ _ _ _ _ _ q1 _ (hg.grows (by repeat' (first | (with_reducible exact Grows.refl _) | (with_reducible refine Grows.alloc ?_ _) | (with_reducible refine Grows.drew ?_) | (with_reducible refine Grows.ext ?_ _ _))))).mono ?_
  rintro e w' ⟨rfl, h5, d5, rfl⟩
  go_wp2_with fail
  refine (lshown_yes _ _ _ _ _ _ _ q1 _ (hg.grows (by repeat' (first | (with_reducible exact Grows.refl _) | (with_reducible refine Grows.alloc ?_ _) | (with_reducible refine Grows.drew ?_) | (with_reducible refine Grows.ext ?_ _ _))))).mono ?_
  rintro e w' ⟨rfl, h6, d6, rfl⟩
  go_wp2_with fail
  go_region
  go_wp2_with fail
  refine (lshown_yes _ _ _ _ _ _ _ q3 _ (hg.grows (by repeat' (first | (with_reducible exact Grows.refl _) | (with_reducible refine Grows.alloc ?_ _) | (with_reducible refine Grows.drew ?_) | (with_reducible refine Grows.ext ?_ _ _))))).mono ?_
  rintro e w' ⟨rfl, h7, d7, rfl⟩
  rw [← Hq.out]
  go_wp2_with fail
  go_loopw [20] (fun i wr => ∃ k : Nat, k ≤ 32 ∧ i = .int .i64 ((k : Int) + 95) ∧ Grows w wr) (fun i _ => 127 - (intOf i).toNat)
  case atStart => exact ⟨0, by omega, by simp, (by repeat' (first | (with_reducible exact Grows.refl _) | (with_reducible refine Grows.alloc ?_ _) | (with_reducible refine Grows.drew ?_) | (with_reducible refine Grows.ext ?_ _ _)))⟩
  case round =>
    obtain ⟨k, hk, rfl, h8, d8, rfl⟩ := hrel
    by_cases hkn : k = 32
    · subst hkn
      go_wp2
      go_ret
      exact ⟨rfl, (by repeat' (first | (with_reducible exact Grows.refl _) | (with_reducible refine Grows.alloc ?_ _) | (with_reducible refine Grows.drew ?_) | (with_reducible refine Grows.ext ?_ _ _)))⟩
    · have hk32 : k < 32 := by omega
      have hlt : decide ((k : Int) + 95 ≤ 126) = true := by simp; omega
      go_wp2_with (first | (go_at_call 21; refine (line_at k hk32 _).mono ?_; rintro e w' ⟨rfl, rfl⟩) | (go_at_call 22; refine (code_at k hk32 _ (hg.grows (by repeat' (first | (with_reducible exact Grows.refl _) | (with_reducible refine Grows.alloc ?_ _) | (with_reducible refine Grows.drew ?_) | (with_reducible refine Grows.ext ?_ _ _))))).mono ?_; rintro e w' ⟨rfl, h9, d9, rfl⟩))
      go_roundw
      case rel => exact ⟨k + 1, by omega, by go_num, (by repeat' (first | (with_reducible exact Grows.refl _) | (with_reducible refine Grows.alloc ?_ _) | (with_reducible refine Grows.drew ?_) | (with_reducible refine Grows.ext ?_ _ _)))⟩
      case measure => simp [intOf]; omega

set_option maxRecDepth 100000 in
set_option maxHeartbeats 4000000 in
theorem once_0_3 (i b x y g0 g1 g2 g3 o : Int) (hi0 : 0 ≤ i) (hi1 : i < 256) (hi : i % 2 = 1) (hr : rightB g0 g1 g2 g3 0 o = true) (hof : ∀ w, Calls Tryd.prog 9 #[.int .u8 b] w (Ret (.agg #[.int .i64 g0, .int .i64 g1, .int .i64 g2, .int .i64 g3, .int .i64 0, .int .i64 o]) w)) (w : World) (hg : SG w) : onceGoal i b x y w := by
  obtain ⟨p0, p1, p2, p3, -, -⟩ := rightB_iff.1 hr
  have Hof := Lib.hid hof
  have hq : signOf g0 g1 g2 g3 0 3 x = signOf g3 g1 g2 g3 0 0 x := by simp [signOf, lineB, gAt]
  have Hq := Lib.hid hq
  have q1 : rightB g0 g1 g2 g3 0 0 = true := rightB_iff.2 ⟨p0, p1, p2, p3, by omega, by omega⟩
  have q2 : rightB g0 g1 g2 g3 0 3 = true := rightB_iff.2 ⟨p0, p1, p2, p3, by omega, by omega⟩
  have q3 : rightB g3 g1 g2 g3 0 0 = true := rightB_iff.2 ⟨by omega, by omega, by omega, by omega, by omega, by omega⟩
  have hiu : In64 0 := by unfold In64; omega
  have heq := arr_eq_at
  clear hof hq hr p0 p1 p2 p3
  unfold onceGoal
  go_enter Tryd.func7, Tryd.ntmps7
  go_wp2_with fail
  refine (works_true _ (hg.grows (by repeat' (first | (with_reducible exact Grows.refl _) | (with_reducible refine Grows.alloc ?_ _) | (with_reducible refine Grows.drew ?_) | (with_reducible refine Grows.ext ?_ _ _))))).mono ?_
  rintro e w' ⟨rfl, h1, d1, rfl⟩
  go_wp2_with fail
  refine (Hof.out _).mono ?_
  rintro e w' ⟨rfl, h2, d2, rfl⟩
  go_wp2_with fail
  refine (single_ok _ _ _ _ _ _ _ hiu q1 (by omega) _).mono ?_
  rintro e w' ⟨rfl, h3, d3, rfl⟩
  go_wp2_with fail
  refine (lshown_yes _ _ _ _ _ _ _ q2 _ (hg.grows (by repeat' (first | (with_reducible exact Grows.refl _) | (with_reducible refine Grows.alloc ?_ _) | (with_reducible refine Grows.drew ?_) | (with_reducible refine Grows.ext ?_ _ _))))).mono ?_
  rintro e w' ⟨rfl, h4, d4, rfl⟩
  go_wp2_with fail
  refine (lshown_yes _ _ _ _ _ _ _ q1 _ (hg.grows (by repeat' (first | (with_reducible exact Grows.refl _) | (with_reducible refine Grows.alloc ?_ _) | (with_reducible refine Grows.drew ?_) | (with_reducible refine Grows.ext ?_ _ _))))).mono ?_
  rintro e w' ⟨rfl, h5, d5, rfl⟩
  go_wp2_with fail
  refine (lshown_yes _ _ _ _ _ _ _ q1 _ (hg.grows (by repeat' (first | (with_reducible exact Grows.refl _) | (with_reducible refine Grows.alloc ?_ _) | (with_reducible refine Grows.drew ?_) | (with_reducible refine Grows.ext ?_ _ _))))).mono ?_
  rintro e w' ⟨rfl, h6, d6, rfl⟩
  go_wp2_with fail
  go_region
  go_wp2_with fail
  refine (lshown_yes _ _ _ _ _ _ _ q3 _ (hg.grows (by repeat' (first | (with_reducible exact Grows.refl _) | (with_reducible refine Grows.alloc ?_ _) | (with_reducible refine Grows.drew ?_) | (with_reducible refine Grows.ext ?_ _ _))))).mono ?_
  rintro e w' ⟨rfl, h7, d7, rfl⟩
  rw [← Hq.out]
  go_wp2_with fail
  go_loopw [20] (fun i wr => ∃ k : Nat, k ≤ 32 ∧ i = .int .i64 ((k : Int) + 95) ∧ Grows w wr) (fun i _ => 127 - (intOf i).toNat)
  case atStart => exact ⟨0, by omega, by simp, (by repeat' (first | (with_reducible exact Grows.refl _) | (with_reducible refine Grows.alloc ?_ _) | (with_reducible refine Grows.drew ?_) | (with_reducible refine Grows.ext ?_ _ _)))⟩
  case round =>
    obtain ⟨k, hk, rfl, h8, d8, rfl⟩ := hrel
    by_cases hkn : k = 32
    · subst hkn
      go_wp2
      go_ret
      exact ⟨rfl, (by repeat' (first | (with_reducible exact Grows.refl _) | (with_reducible refine Grows.alloc ?_ _) | (with_reducible refine Grows.drew ?_) | (with_reducible refine Grows.ext ?_ _ _)))⟩
    · have hk32 : k < 32 := by omega
      have hlt : decide ((k : Int) + 95 ≤ 126) = true := by simp; omega
      go_wp2_with (first | (go_at_call 21; refine (line_at k hk32 _).mono ?_; rintro e w' ⟨rfl, rfl⟩) | (go_at_call 22; refine (code_at k hk32 _ (hg.grows (by repeat' (first | (with_reducible exact Grows.refl _) | (with_reducible refine Grows.alloc ?_ _) | (with_reducible refine Grows.drew ?_) | (with_reducible refine Grows.ext ?_ _ _))))).mono ?_; rintro e w' ⟨rfl, h9, d9, rfl⟩))
      go_roundw
      case rel => exact ⟨k + 1, by omega, by go_num, (by repeat' (first | (with_reducible exact Grows.refl _) | (with_reducible refine Grows.alloc ?_ _) | (with_reducible refine Grows.drew ?_) | (with_reducible refine Grows.ext ?_ _ _)))⟩
      case measure => simp [intOf]; omega

set_option maxRecDepth 100000 in
set_option maxHeartbeats 4000000 in
theorem once_1_2 (i b x y g0 g1 g2 g3 o : Int) (hi0 : 0 ≤ i) (hi1 : i < 256) (hi : i % 2 = 0) (hr : rightB g0 g1 g2 g3 1 o = true) (hof : ∀ w, Calls Tryd.prog 9 #[.int .u8 b] w (Ret (.agg #[.int .i64 g0, .int .i64 g1, .int .i64 g2, .int .i64 g3, .int .i64 1, .int .i64 o]) w)) (w : World) (hg : SG w) : onceGoal i b x y w := by
  obtain ⟨p0, p1, p2, p3, -, -⟩ := rightB_iff.1 hr
  have Hof := Lib.hid hof
  have hq : signOf g0 g1 g2 g3 1 2 x = signOf g0 g2 g2 g3 1 0 x := by simp [signOf, lineB, gAt]
  have Hq := Lib.hid hq
  have q1 : rightB g0 g1 g2 g3 1 0 = true := rightB_iff.2 ⟨p0, p1, p2, p3, by omega, by omega⟩
  have q2 : rightB g0 g1 g2 g3 1 2 = true := rightB_iff.2 ⟨p0, p1, p2, p3, by omega, by omega⟩
  have q3 : rightB g0 g2 g2 g3 1 0 = true := rightB_iff.2 ⟨by omega, by omega, by omega, by omega, by omega, by omega⟩
  have hiu : In64 1 := by unfold In64; omega
  have heq := arr_eq_at
  clear hof hq hr p0 p1 p2 p3
  unfold onceGoal
  go_enter Tryd.func7, Tryd.ntmps7
  go_wp2_with fail
  refine (works_true _ (hg.grows (by repeat' (first | (with_reducible exact Grows.refl _) | (with_reducible refine Grows.alloc ?_ _) | (with_reducible refine Grows.drew ?_) | (with_reducible refine Grows.ext ?_ _ _))))).mono ?_
  rintro e w' ⟨rfl, h1, d1, rfl⟩
  go_wp2_with fail
  refine (Hof.out _).mono ?_
  rintro e w' ⟨rfl, h2, d2, rfl⟩
  go_wp2_with fail
  refine (single_ok _ _ _ _ _ _ _ hiu q1 (by omega) _).mono ?_
  rintro e w' ⟨rfl, h3, d3, rfl⟩
  go_wp2_with fail
  refine (lshown_yes _ _ _ _ _ _ _ q2 _ (hg.grows (by repeat' (first | (with_reducible exact Grows.refl _) | (with_reducible refine Grows.alloc ?_ _) | (with_reducible refine Grows.drew ?_) | (with_reducible refine Grows.ext ?_ _ _))))).mono ?_
  rintro e w' ⟨rfl, h4, d4, rfl⟩
  go_wp2_with fail
  refine (lshown_yes _ _ _ _ _ _ _ q1 _ (hg.grows (by repeat' (first | (with_reducible exact Grows.refl _) | (with_reducible refine Grows.alloc ?_ _) | (with_reducible refine Grows.drew ?_) | (with_reducible refine Grows.ext ?_ _ _))))).mono ?_
  rintro e w' ⟨rfl, h5, d5, rfl⟩
  go_wp2_with fail
  refine (lshown_yes _ _ _ _ _ _ _ q1 _ (hg.grows (by repeat' (first | (with_reducible exact Grows.refl _) | (with_reducible refine Grows.alloc ?_ _) | (with_reducible refine Grows.drew ?_) | (with_reducible refine Grows.ext ?_ _ _))))).mono ?_
  rintro e w' ⟨rfl, h6, d6, rfl⟩
  go_wp2_with fail
  go_region
  go_wp2_with fail
  refine (lshown_yes _ _ _ _ _ _ _ q3 _ (hg.grows (by repeat' (first | (with_reducible exact Grows.refl _) | (with_reducible refine Grows.alloc ?_ _) | (with_reducible refine Grows.drew ?_) | (with_reducible refine Grows.ext ?_ _ _))))).mono ?_
  rintro e w' ⟨rfl, h7, d7, rfl⟩
  rw [← Hq.out]
  go_wp2_with fail
  go_loopw [20] (fun i wr => ∃ k : Nat, k ≤ 32 ∧ i = .int .i64 ((k : Int) + 95) ∧ Grows w wr) (fun i _ => 127 - (intOf i).toNat)
  case atStart => exact ⟨0, by omega, by simp, (by repeat' (first | (with_reducible exact Grows.refl _) | (with_reducible refine Grows.alloc ?_ _) | (with_reducible refine Grows.drew ?_) | (with_reducible refine Grows.ext ?_ _ _)))⟩
  case round =>
    obtain ⟨k, hk, rfl, h8, d8, rfl⟩ := hrel
    by_cases hkn : k = 32
    · subst hkn
      go_wp2
      go_ret
      exact ⟨rfl, (by repeat' (first | (with_reducible exact Grows.refl _) | (with_reducible refine Grows.alloc ?_ _) | (with_reducible refine Grows.drew ?_) | (with_reducible refine Grows.ext ?_ _ _)))⟩
    · have hk32 : k < 32 := by omega
      have hlt : decide ((k : Int) + 95 ≤ 126) = true := by simp; omega
      go_wp2_with (first | (go_at_call 21; refine (line_at k hk32 _).mono ?_; rintro e w' ⟨rfl, rfl⟩) | (go_at_call 22; refine (code_at k hk32 _ (hg.grows (by repeat' (first | (with_reducible exact Grows.refl _) | (with_reducible refine Grows.alloc ?_ _) | (with_reducible refine Grows.drew ?_) | (with_reducible refine Grows.ext ?_ _ _))))).mono ?_; rintro e w' ⟨rfl, h9, d9, rfl⟩))
      go_roundw
      case rel => exact ⟨k + 1, by omega, by go_num, (by repeat' (first | (with_reducible exact Grows.refl _) | (with_reducible refine Grows.alloc ?_ _) | (with_reducible refine Grows.drew ?_) | (with_reducible refine Grows.ext ?_ _ _)))⟩
      case measure => simp [intOf]; omega

set_option maxRecDepth 100000 in
set_option maxHeartbeats 4000000 in
theorem once_1_3 (i b x y g0 g1 g2 g3 o : Int) (hi0 : 0 ≤ i) (hi1 : i < 256) (hi : i % 2 = 1) (hr : rightB g0 g1 g2 g3 1 o = true) (hof : ∀ w, Calls Tryd.prog 9 #[.int .u8 b] w (Ret (.agg #[.int .i64 g0, .int .i64 g1, .int .i64 g2, .int .i64 g3, .int .i64 1, .int .i64 o]) w)) (w : World) (hg : SG w) : onceGoal i b x y w := by
  obtain ⟨p0, p1, p2, p3, -, -⟩ := rightB_iff.1 hr
  have Hof := Lib.hid hof
  have hq : signOf g0 g1 g2 g3 1 3 x = signOf g0 g3 g2 g3 1 0 x := by simp [signOf, lineB, gAt]
  have Hq := Lib.hid hq
  have q1 : rightB g0 g1 g2 g3 1 0 = true := rightB_iff.2 ⟨p0, p1, p2, p3, by omega, by omega⟩
  have q2 : rightB g0 g1 g2 g3 1 3 = true := rightB_iff.2 ⟨p0, p1, p2, p3, by omega, by omega⟩
  have q3 : rightB g0 g3 g2 g3 1 0 = true := rightB_iff.2 ⟨by omega, by omega, by omega, by omega, by omega, by omega⟩
  have hiu : In64 1 := by unfold In64; omega
  have heq := arr_eq_at
  clear hof hq hr p0 p1 p2 p3
  unfold onceGoal
  go_enter Tryd.func7, Tryd.ntmps7
  go_wp2_with fail
  refine (works_true _ (hg.grows (by repeat' (first | (with_reducible exact Grows.refl _) | (with_reducible refine Grows.alloc ?_ _) | (with_reducible refine Grows.drew ?_) | (with_reducible refine Grows.ext ?_ _ _))))).mono ?_
  rintro e w' ⟨rfl, h1, d1, rfl⟩
  go_wp2_with fail
  refine (Hof.out _).mono ?_
  rintro e w' ⟨rfl, h2, d2, rfl⟩
  go_wp2_with fail
  refine (single_ok _ _ _ _ _ _ _ hiu q1 (by omega) _).mono ?_
  rintro e w' ⟨rfl, h3, d3, rfl⟩
  go_wp2_with fail
  refine (lshown_yes _ _ _ _ _ _ _ q2 _ (hg.grows (by repeat' (first | (with_reducible exact Grows.refl _) | (with_reducible refine Grows.alloc ?_ _) | (with_reducible refine Grows.drew ?_) | (with_reducible refine Grows.ext ?_ _ _))))).mono ?_
  rintro e w' ⟨rfl, h4, d4, rfl⟩
  go_wp2_with fail
  refine (lshown_yes _ _ _ _ _ _ _ q1 _ (hg.grows (by repeat' (first | (with_reducible exact Grows.refl _) | (with_reducible refine Grows.alloc ?_ _) | (with_reducible refine Grows.drew ?_) | (with_reducible refine Grows.ext ?_ _ _))))).mono ?_
  rintro e w' ⟨rfl, h5, d5, rfl⟩
  go_wp2_with fail
  refine (lshown_yes _ _ _ _ _ _ _ q1 _ (hg.grows (by repeat' (first | (with_reducible exact Grows.refl _) | (with_reducible refine Grows.alloc ?_ _) | (with_reducible refine Grows.drew ?_) | (with_reducible refine Grows.ext ?_ _ _))))).mono ?_
  rintro e w' ⟨rfl, h6, d6, rfl⟩
  go_wp2_with fail
  go_region
  go_wp2_with fail
  refine (lshown_yes _ _ _ _ _ _ _ q3 _ (hg.grows (by repeat' (first | (with_reducible exact Grows.refl _) | (with_reducible refine Grows.alloc ?_ _) | (with_reducible refine Grows.drew ?_) | (with_reducible refine Grows.ext ?_ _ _))))).mono ?_
  rintro e w' ⟨rfl, h7, d7, rfl⟩
  rw [← Hq.out]
  go_wp2_with fail
  go_loopw [20] (fun i wr => ∃ k : Nat, k ≤ 32 ∧ i = .int .i64 ((k : Int) + 95) ∧ Grows w wr) (fun i _ => 127 - (intOf i).toNat)
  case atStart => exact ⟨0, by omega, by simp, (by repeat' (first | (with_reducible exact Grows.refl _) | (with_reducible refine Grows.alloc ?_ _) | (with_reducible refine Grows.drew ?_) | (with_reducible refine Grows.ext ?_ _ _)))⟩
  case round =>
    obtain ⟨k, hk, rfl, h8, d8, rfl⟩ := hrel
    by_cases hkn : k = 32
    · subst hkn
      go_wp2
      go_ret
      exact ⟨rfl, (by repeat' (first | (with_reducible exact Grows.refl _) | (with_reducible refine Grows.alloc ?_ _) | (with_reducible refine Grows.drew ?_) | (with_reducible refine Grows.ext ?_ _ _)))⟩
    · have hk32 : k < 32 := by omega
      have hlt : decide ((k : Int) + 95 ≤ 126) = true := by simp; omega
      go_wp2_with (first | (go_at_call 21; refine (line_at k hk32 _).mono ?_; rintro e w' ⟨rfl, rfl⟩) | (go_at_call 22; refine (code_at k hk32 _ (hg.grows (by repeat' (first | (with_reducible exact Grows.refl _) | (with_reducible refine Grows.alloc ?_ _) | (with_reducible refine Grows.drew ?_) | (with_reducible refine Grows.ext ?_ _ _))))).mono ?_; rintro e w' ⟨rfl, h9, d9, rfl⟩))
      go_roundw
      case rel => exact ⟨k + 1, by omega, by go_num, (by repeat' (first | (with_reducible exact Grows.refl _) | (with_reducible refine Grows.alloc ?_ _) | (with_reducible refine Grows.drew ?_) | (with_reducible refine Grows.ext ?_ _ _)))⟩
      case measure => simp [intOf]; omega

theorem once_true (b i x y : Int) (hb0 : 0 ≤ b) (hb1 : b < 256) (hi0 : 0 ≤ i) (hi1 : i < 256) (w : World) (hg : SG w) : Calls Tryd.prog 7 #[.int .u8 b, .int .u8 i, .agg #[.int .i64 x, .int .i64 y]] w (Ret (.bool true) w) := by
  obtain ⟨g0, g1, g2, g3, u, o, hr, hof⟩ := of_gen b hb0 hb1
  obtain ⟨-, -, -, -, hu, -⟩ := rightB_iff.1 hr
  have hi : i % 2 = 0 ∨ i % 2 = 1 := by omega
  rcases hu with rfl | rfl <;> rcases hi with hi | hi
  · exact once_0_2 i b x y g0 g1 g2 g3 o hi0 hi1 hi hr hof w hg
  · exact once_0_3 i b x y g0 g1 g2 g3 o hi0 hi1 hi hr hof w hg
  · exact once_1_2 i b x y g0 g1 g2 g3 o hi0 hi1 hi hr hof w hg
  · exact once_1_3 i b x y g0 g1 g2 g3 o hi0 hi1 hi hr hof w hg
end Go.Proofs.YtegpdjiacehkfaaDoor
