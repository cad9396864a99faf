/-
  Walks: Code missing; the reference Code; Of; shown.
-/
import Derived.Test.YtegpdjiacehkfaaDoorRows
import Derived.Test.YtegpdjiacehkfaaDoorDefs
import Derived.Test.YtegpdjiacehkfaaDoorW1
import Derived.Test.YtegpdjiacehkfaaDoorW2
import Derived.Test.YtegpdjiacehkfaaDoorW5
import Derived.Test.YtegpdjiacehkfaaDoorW9
import Derived.WalkKit
import Derived.WalkSpells
import Derived.WalkLawsBesides
import Derived.Handy
import Derived.Lib.Hide
import Derived.Deep.Light
import Derived.Deep.LoopGhost
import Derived.BigGuardPart
import Derived.BigQuiet
import Derived.Deep.QuietTactic
namespace Go.Proofs.YtegpdjiacehkfaaDoor
open Go.RowKit


set_option maxHeartbeats 400000 in
theorem code_miss (sign : Int) (hno : ∀ k : Nat, k < 32 → signAt k ≠ sign) (w : World) (hg : SG w) :
    Calls Tryd.prog 22 #[.int .i64 sign] w (Ret (.tuple #[.int .i64 0, .bool false]) w) := by
  obtain ⟨t, fr, hg⟩ := hg
  have Hg := Lib.hid hg
  have Hno := Lib.hid hno
  clear hg hno
  go_enter Tryd.func22, Tryd.ntmps22
  go_wp2_with (refine wpList_load_row rfl 52 _ rfl 0 rfl t _ fr _ Hg.out Tryd.underlying52 rfl info52 ?_)
  go_loop [4, 5, 7] (fun _ _ i => ∃ k : Nat, k ≤ 32 ∧ i = .int .i64 k) (fun _ _ i => 32 - (intOf i).toNat)
  case atStart => exact ⟨0, by omega, rfl⟩
  case round =>
    obtain ⟨k, hk, rfl⟩ := hrel
    by_cases hkn : k = 32
    · subst hkn
      go_wp2
      go_ret2
      exact ⟨rfl, (by repeat' (first | (with_reducible exact Grows.refl _) | (with_reducible refine Grows.alloc ?_ _) | (with_reducible refine Grows.drew ?_) | (with_reducible refine Grows.ext ?_ _ _)))⟩
    · have hix := index52 k (by omega)
      have he : (signAt k == sign) = false := by
        rw [beq_eq_false_iff_ne]
        exact Hno.out k (by omega)
      have hlt : decide ((k : Int) < 32) = true := by simp; omega
      go_wp2
      go_round
      case rel => exact ⟨k + 1, by omega, by go_num⟩
      case measure => simp [intOf]; omega

set_option maxHeartbeats 400000 in
theorem rcode_hit (sign : Int) (n : Nat) (hn : n < 32) (hs : signAt n = sign) (w : World) :
    Calls Tryd.prog 23 #[.int .i64 sign] w (Ret (.tuple #[.int .i64 (95 + n), .bool true]) w) := by
  go_enter Tryd.func23, Tryd.ntmps23
  go_wp2
  go_loop [4] (fun i => ∃ k : Nat, k ≤ n ∧ i = .int .i64 ((k : Int) + 95)) (fun i => n + 95 - (intOf i).toNat)
  case atStart => exact ⟨0, by omega, by simp⟩
  case round =>
    obtain ⟨k, hk, rfl⟩ := hrel
    have hlt : decide ((k : Int) + 95 ≤ 126) = true := by simp; omega
    by_cases hkn : k = n
    · subst hkn
      have he : (signAt k == sign) = true := by rw [hs]; simp
      clear hs
      go_wp2_with (go_at_call 21; refine (line_at k hn _).mono ?_; rintro e w' ⟨rfl, rfl⟩)
      go_ret2
      refine ⟨?_, (by repeat' (first | (with_reducible exact Grows.refl _) | (with_reducible refine Grows.alloc ?_ _) | (with_reducible refine Grows.drew ?_) | (with_reducible refine Grows.ext ?_ _ _)))⟩
      show Ending.returned (.tuple #[.int .i64 ((k : Int) + 95), .bool true]) = _
      rw [Int.add_comm]
    · have hk32 : k < 32 := by omega
      have he : (signAt k == sign) = false := by
        rw [← hs, beq_eq_false_iff_ne]
        intro e
        exact hkn (signAt_inj k n (by omega) hn e)
      clear hs
      go_wp2_with (go_at_call 21; refine (line_at k hk32 _).mono ?_; rintro e w' ⟨rfl, rfl⟩)
      go_round
      case rel => exact ⟨k + 1, by omega, by go_num⟩
      case measure => simp [intOf]; omega

set_option maxHeartbeats 400000 in
theorem rcode_miss (sign : Int) (hno : ∀ k : Nat, k < 32 → signAt k ≠ sign) (w : World) :
    Calls Tryd.prog 23 #[.int .i64 sign] w (Ret (.tuple #[.int .i64 0, .bool false]) w) := by
  have Hno := Lib.hid hno
  clear hno
  go_enter Tryd.func23, Tryd.ntmps23
  go_wp2
  go_loop [4] (fun i => ∃ k : Nat, k ≤ 32 ∧ i = .int .i64 ((k : Int) + 95)) (fun i => 127 - (intOf i).toNat)
  case atStart => exact ⟨0, by omega, by simp⟩
  case round =>
    obtain ⟨k, hk, rfl⟩ := hrel
    by_cases hkn : k = 32
    · subst hkn
      go_wp2
      go_ret2
      exact ⟨rfl, (by repeat' (first | (with_reducible exact Grows.refl _) | (with_reducible refine Grows.alloc ?_ _) | (with_reducible refine Grows.drew ?_) | (with_reducible refine Grows.ext ?_ _ _)))⟩
    · have hk32 : k < 32 := by omega
      have hlt : decide ((k : Int) + 95 ≤ 126) = true := by simp; omega
      have he : (signAt k == sign) = false := by
        rw [beq_eq_false_iff_ne]
        exact Hno.out k (by omega)
      go_wp2_with (go_at_call 21; refine (line_at k hk32 _).mono ?_; rintro e w' ⟨rfl, rfl⟩)
      go_round
      case rel => exact ⟨k + 1, by omega, by go_num⟩
      case measure => simp [intOf]; omega

theorem idx22u_0 (w : World) : (Instr.index 22 (.agg #[.int .i64 0, .int .i64 0, .int .i64 2, .int .i64 3]) (.int .u8 0)).run Tryd.prog w = .ok (.int .i64 0) w := by kernel_rfl
theorem idx22u_1 (w : World) : (Instr.index 22 (.agg #[.int .i64 0, .int .i64 0, .int .i64 2, .int .i64 3]) (.int .u8 1)).run Tryd.prog w = .ok (.int .i64 0) w := by kernel_rfl
theorem idx22u_2 (w : World) : (Instr.index 22 (.agg #[.int .i64 0, .int .i64 0, .int .i64 2, .int .i64 3]) (.int .u8 2)).run Tryd.prog w = .ok (.int .i64 2) w := by kernel_rfl
theorem idx22u_3 (w : World) : (Instr.index 22 (.agg #[.int .i64 0, .int .i64 0, .int .i64 2, .int .i64 3]) (.int .u8 3)).run Tryd.prog w = .ok (.int .i64 3) w := by kernel_rfl

set_option maxHeartbeats 400000 in
theorem of_any (b : Int) (h0 : 0 ≤ b) (h1 : b < 256) (w : World) :
    Calls Tryd.prog 9 #[.int .u8 b] w (Ret (.agg #[.int .i64 (b % 2), .int .i64 (b / 2 % 2), .int .i64 (b / 4 % 2), .int .i64 (b / 8 % 2), .int .i64 (b / 16 % 2), .int .i64 (onceOf (b / 32 % 4))]) w) := by
  have hq : b / 32 % 4 = 0 ∨ b / 32 % 4 = 1 ∨ b / 32 % 4 = 2 ∨ b / 32 % 4 = 3 := by omega
  have i0 := idx22u_0
  have i1 := idx22u_1
  have i2 := idx22u_2
  have i3 := idx22u_3
  rcases hq with hq | hq | hq | hq
  all_goals
    go_enter Tryd.func9, Tryd.ntmps9
    go_wp2
    go_returns
    exact ⟨by simp [onceOf, hq], (by repeat' (first | (with_reducible exact Grows.refl _) | (with_reducible refine Grows.alloc ?_ _) | (with_reducible refine Grows.drew ?_) | (with_reducible refine Grows.ext ?_ _ _)))⟩

set_option maxHeartbeats 800000 in
theorem lshown_no (a b c d u o cp : Int) (hi : In64 u) (h : rightB a b c d u o = false) (w : World) :
    Calls Tryd.prog 24 #[.agg #[.int .i64 a, .int .i64 b, .int .i64 c, .int .i64 d, .int .i64 u, .int .i64 o], .int .i64 cp] w (Ret (.tuple #[.int .i64 (-1), .agg #[.int .i64 0, .int .i64 0, .int .i64 0, .int .i64 0, .int .i64 0, .int .i64 0]]) w) := by
  go_enter Tryd.func24, Tryd.ntmps24
  go_wp2_with (go_at_call 12; refine (shown_no _ _ _ _ _ _ _ hi h _).mono ?_; rintro e w' ⟨rfl, h1, d1, rfl⟩)
  go_region
  go_wp2
  go_returns
  exact ⟨rfl, (by repeat' (first | (with_reducible exact Grows.refl _) | (with_reducible refine Grows.alloc ?_ _) | (with_reducible refine Grows.drew ?_) | (with_reducible refine Grows.ext ?_ _ _)))⟩
set_option maxHeartbeats 800000 in
theorem lshown_yes (a b c d u o cp : Int) (h : rightB a b c d u o = true) (w : World) (hg : SG w) :
    Calls Tryd.prog 24 #[.agg #[.int .i64 a, .int .i64 b, .int .i64 c, .int .i64 d, .int .i64 u, .int .i64 o], .int .i64 cp] w (Ret (.tuple #[.int .i64 (signOf a b c d u o cp), .agg #[.int .i64 a, .int .i64 b, .int .i64 c, .int .i64 d, .int .i64 u, .int .i64 0]]) w) := by
  go_enter Tryd.func24, Tryd.ntmps24
  go_wp2_with (go_at_call 12; refine (shown_yes _ _ _ _ _ _ _ h _ (hg.grows (by repeat' (first | (with_reducible exact Grows.refl _) | (with_reducible refine Grows.alloc ?_ _) | (with_reducible refine Grows.drew ?_) | (with_reducible refine Grows.ext ?_ _ _))))).mono ?_; rintro e w' ⟨rfl, h1, d1, rfl⟩)
  go_region
  go_wp2
  go_returns
  exact ⟨rfl, (by repeat' (first | (with_reducible exact Grows.refl _) | (with_reducible refine Grows.alloc ?_ _) | (with_reducible refine Grows.drew ?_) | (with_reducible refine Grows.ext ?_ _ _)))⟩
end Go.Proofs.YtegpdjiacehkfaaDoor
