/-
  Walks: which M may be.
-/
import Derived.Test.YtafokiobbceibaaRows
import Derived.Test.YtafokiobbceibaaLt
import Derived.Test.YtafokiobbceibaaDefs
import Derived.Test.YtafokiobbceibaaBits
import Derived.WalkKit
import Derived.WalkSpells
import Derived.WalkLawsBesides
import Derived.Handy
import Derived.Laws.EntriesVeiled
import Derived.Lib.Hide
import Derived.Deep.Light
import Derived.Deep.LoopGhost
import Derived.BigGuardPart
import Derived.BigQuiet
import Derived.Deep.QuietTactic
import Derived.Deep.RegionHeld3
import Derived.Test.YtafokiobbceibaaReg
import Derived.Test.YtafokiobbceibaaReg3
import Derived.Test.YtafokiobbceibaaReg4
namespace Go.Proofs.Ytafokiobbceibaa
open Go.RowKit


/-- m is exactly one attribute. -/
def oneB (m : Int) : Bool := m == 1 || (m == 2 || (m == 4 || (m == 8 || (m == 16 || (m == 32 || (m == 64 || m == 128))))))
set_option maxHeartbeats 2000000 in
theorem ones64_any (n : Nat) (hn : n < 256) (w : World) : Calls Try.prog 50 #[.int .u64 n] w (fun e w' => ∃ v : Int, e = .returned (.int .i64 v) ∧ (v == 1) = oneB n ∧ w = w') := by
  have h0 : (0 : Int) ≤ n := by omega
  have h1 : (n : Int) < 256 := by omega
  go_enter Try.func50, Try.ntmps50
  go_wp2
  go_ret
  refine ⟨_, rfl, ?_, rfl⟩
  clear h0 h1 w
  revert n
  decide +kernel
set_option maxHeartbeats 2000000 in
theorem ones_any (n : Nat) (hn : n < 256) (w : World) : Calls Try.prog 48 #[.int .u64 n] w (fun e w' => ∃ v : Int, e = .returned (.int .i64 v) ∧ (v == 1) = oneB n ∧ w = w') := by
  go_enter Try.func48, Try.ntmps48
  go_wp2_with (go_at_call 50; (with_reducible refine (ones64_any n hn _).mono ?_); rintro e w' ⟨v, rfl, hv, rfl⟩)
  go_ret
  exact ⟨v, rfl, hv, rfl⟩
theorem zero_any (m : Int) (w : World) : Calls Try.prog 36 #[.int .i64 m] w (Ret (.bool (m == 0)) w) := by
  go_enter Try.func36, Try.ntmps36
  go_wp2
  go_returns
  exact ⟨rfl, (by repeat' (first | (with_reducible exact Grows.refl _) | (with_reducible refine Grows.alloc ?_ _) | (with_reducible refine Grows.drew ?_) | (with_reducible refine Grows.ext ?_ _ _)))⟩
set_option maxHeartbeats 2000000 in
theorem one_any (m : Int) (hi : In64 m) (w : World) : Calls Try.prog 39 #[.int .i64 m] w (Ret (.bool (oneB m)) w) := by
  have hm := mask_ne hi
  by_cases hb : 0 ≤ m ∧ m ≤ 255
  · obtain ⟨n, rfl⟩ : ∃ n : Nat, m = (n : Int) := ⟨m.toNat, by omega⟩
    have hn : n < 256 := by omega
    have e1 : (bits .andNot .i64 (n : Int) 255 == 0) = true := by
      have h2 : (bits .andNot .i64 (n : Int) 255 != 0) = false := by rw [hm]; simp; omega
      simpa using h2
    have h0 : (0 : Int) ≤ n := by omega
    have h1 : (n : Int) < 256 := by omega
    clear hm hb hi
    go_enter Try.func39, Try.ntmps39
    go_wp2_with (go_at_call 48; (with_reducible refine (ones_any n hn _).mono ?_); rintro e w' ⟨v, rfl, hv, rfl⟩)
    go_returns
    exact ⟨rfl, (by repeat' (first | (with_reducible exact Grows.refl _) | (with_reducible refine Grows.alloc ?_ _) | (with_reducible refine Grows.drew ?_) | (with_reducible refine Grows.ext ?_ _ _)))⟩
  · have e1 : (bits .andNot .i64 m 255 == 0) = false := by
      have h2 : (bits .andNot .i64 m 255 != 0) = true := by rw [hm]; simp; omega
      simpa using h2
    have e2 : oneB m = false := by simp [oneB]; omega
    rw [e2]
    clear hm hb hi e2
    go_enter Try.func39, Try.ntmps39
    go_wp2
    go_returns
    exact ⟨rfl, (by repeat' (first | (with_reducible exact Grows.refl _) | (with_reducible refine Grows.alloc ?_ _) | (with_reducible refine Grows.drew ?_) | (with_reducible refine Grows.ext ?_ _ _)))⟩
def clrB (m : Int) : Bool := m == 3 || (oneB m && !(m == 1 || m == 2))

theorem clear_1 (w : World) : Calls Try.prog 41 #[.int .i64 1] w (Ret (.bool (clrB 1)) w) := by
  rw [show clrB 1 = false by decide]
  go_enter Try.func41, Try.ntmps41
  go_wp2_with (go_at_call 39; (with_reducible refine (one_any 1 (by unfold In64; omega) _).mono ?_); rw [show oneB 1 = true by decide]; rintro e w' ⟨rfl, h1, d1, rfl⟩)
  go_returns
  exact ⟨rfl, (by repeat' (first | (with_reducible exact Grows.refl _) | (with_reducible refine Grows.alloc ?_ _) | (with_reducible refine Grows.drew ?_) | (with_reducible refine Grows.ext ?_ _ _)))⟩

theorem clear_2 (w : World) : Calls Try.prog 41 #[.int .i64 2] w (Ret (.bool (clrB 2)) w) := by
  rw [show clrB 2 = false by decide]
  go_enter Try.func41, Try.ntmps41
  go_wp2_with (go_at_call 39; (with_reducible refine (one_any 2 (by unfold In64; omega) _).mono ?_); rw [show oneB 2 = true by decide]; rintro e w' ⟨rfl, h1, d1, rfl⟩)
  go_returns
  exact ⟨rfl, (by repeat' (first | (with_reducible exact Grows.refl _) | (with_reducible refine Grows.alloc ?_ _) | (with_reducible refine Grows.drew ?_) | (with_reducible refine Grows.ext ?_ _ _)))⟩

theorem clear_3 (w : World) : Calls Try.prog 41 #[.int .i64 3] w (Ret (.bool (clrB 3)) w) := by
  rw [show clrB 3 = true by decide]
  go_enter Try.func41, Try.ntmps41
  go_wp2_with (go_at_call 39; (with_reducible refine (one_any 3 (by unfold In64; omega) _).mono ?_); rw [show oneB 3 = false by decide]; rintro e w' ⟨rfl, h1, d1, rfl⟩)
  go_returns
  exact ⟨rfl, (by repeat' (first | (with_reducible exact Grows.refl _) | (with_reducible refine Grows.alloc ?_ _) | (with_reducible refine Grows.drew ?_) | (with_reducible refine Grows.ext ?_ _ _)))⟩

theorem clear_4 (w : World) : Calls Try.prog 41 #[.int .i64 4] w (Ret (.bool (clrB 4)) w) := by
  rw [show clrB 4 = true by decide]
  go_enter Try.func41, Try.ntmps41
  go_wp2_with (go_at_call 39; (with_reducible refine (one_any 4 (by unfold In64; omega) _).mono ?_); rw [show oneB 4 = true by decide]; rintro e w' ⟨rfl, h1, d1, rfl⟩)
  go_returns
  exact ⟨rfl, (by repeat' (first | (with_reducible exact Grows.refl _) | (with_reducible refine Grows.alloc ?_ _) | (with_reducible refine Grows.drew ?_) | (with_reducible refine Grows.ext ?_ _ _)))⟩

theorem clear_8 (w : World) : Calls Try.prog 41 #[.int .i64 8] w (Ret (.bool (clrB 8)) w) := by
  rw [show clrB 8 = true by decide]
  go_enter Try.func41, Try.ntmps41
  go_wp2_with (go_at_call 39; (with_reducible refine (one_any 8 (by unfold In64; omega) _).mono ?_); rw [show oneB 8 = true by decide]; rintro e w' ⟨rfl, h1, d1, rfl⟩)
  go_returns
  exact ⟨rfl, (by repeat' (first | (with_reducible exact Grows.refl _) | (with_reducible refine Grows.alloc ?_ _) | (with_reducible refine Grows.drew ?_) | (with_reducible refine Grows.ext ?_ _ _)))⟩

theorem clear_16 (w : World) : Calls Try.prog 41 #[.int .i64 16] w (Ret (.bool (clrB 16)) w) := by
  rw [show clrB 16 = true by decide]
  go_enter Try.func41, Try.ntmps41
  go_wp2_with (go_at_call 39; (with_reducible refine (one_any 16 (by unfold In64; omega) _).mono ?_); rw [show oneB 16 = true by decide]; rintro e w' ⟨rfl, h1, d1, rfl⟩)
  go_returns
  exact ⟨rfl, (by repeat' (first | (with_reducible exact Grows.refl _) | (with_reducible refine Grows.alloc ?_ _) | (with_reducible refine Grows.drew ?_) | (with_reducible refine Grows.ext ?_ _ _)))⟩

theorem clear_32 (w : World) : Calls Try.prog 41 #[.int .i64 32] w (Ret (.bool (clrB 32)) w) := by
  rw [show clrB 32 = true by decide]
  go_enter Try.func41, Try.ntmps41
  go_wp2_with (go_at_call 39; (with_reducible refine (one_any 32 (by unfold In64; omega) _).mono ?_); rw [show oneB 32 = true by decide]; rintro e w' ⟨rfl, h1, d1, rfl⟩)
  go_returns
  exact ⟨rfl, (by repeat' (first | (with_reducible exact Grows.refl _) | (with_reducible refine Grows.alloc ?_ _) | (with_reducible refine Grows.drew ?_) | (with_reducible refine Grows.ext ?_ _ _)))⟩

theorem clear_64 (w : World) : Calls Try.prog 41 #[.int .i64 64] w (Ret (.bool (clrB 64)) w) := by
  rw [show clrB 64 = true by decide]
  go_enter Try.func41, Try.ntmps41
  go_wp2_with (go_at_call 39; (with_reducible refine (one_any 64 (by unfold In64; omega) _).mono ?_); rw [show oneB 64 = true by decide]; rintro e w' ⟨rfl, h1, d1, rfl⟩)
  go_returns
  exact ⟨rfl, (by repeat' (first | (with_reducible exact Grows.refl _) | (with_reducible refine Grows.alloc ?_ _) | (with_reducible refine Grows.drew ?_) | (with_reducible refine Grows.ext ?_ _ _)))⟩

theorem clear_128 (w : World) : Calls Try.prog 41 #[.int .i64 128] w (Ret (.bool (clrB 128)) w) := by
  rw [show clrB 128 = true by decide]
  go_enter Try.func41, Try.ntmps41
  go_wp2_with (go_at_call 39; (with_reducible refine (one_any 128 (by unfold In64; omega) _).mono ?_); rw [show oneB 128 = true by decide]; rintro e w' ⟨rfl, h1, d1, rfl⟩)
  go_returns
  exact ⟨rfl, (by repeat' (first | (with_reducible exact Grows.refl _) | (with_reducible refine Grows.alloc ?_ _) | (with_reducible refine Grows.drew ?_) | (with_reducible refine Grows.ext ?_ _ _)))⟩

theorem clear_any (m : Int) (hi : In64 m) (w : World) : Calls Try.prog 41 #[.int .i64 m] w (Ret (.bool (clrB m)) w) := by
  by_cases h : m = 1 ∨ m = 2 ∨ m = 3 ∨ m = 4 ∨ m = 8 ∨ m = 16 ∨ m = 32 ∨ m = 64 ∨ m = 128
  · rcases h with rfl | rfl | rfl | rfl | rfl | rfl | rfl | rfl | rfl
    · exact clear_1 w
    · exact clear_2 w
    · exact clear_3 w
    · exact clear_4 w
    · exact clear_8 w
    · exact clear_16 w
    · exact clear_32 w
    · exact clear_64 w
    · exact clear_128 w
  · have e0 : oneB m = false := by simp [oneB]; omega
    have e1 : (m == 3) = false := by simp; omega
    rw [show clrB m = false by simp [clrB, e0, e1]]
    have H := Lib.hid fun W => one_any m hi W
    rw [e0] at H
    clear h hi e0
    go_enter Try.func41, Try.ntmps41
    go_wp2_with (go_at_call 39; (with_reducible refine (H.out _).mono ?_); rintro e w' ⟨rfl, h1, d1, rfl⟩)
    go_returns
    exact ⟨rfl, (by repeat' (first | (with_reducible exact Grows.refl _) | (with_reducible refine Grows.alloc ?_ _) | (with_reducible refine Grows.drew ?_) | (with_reducible refine Grows.ext ?_ _ _)))⟩
def undB (m : Int) : Bool := decide (0 ≤ m) && decide (m ≤ 5)
theorem under_any (m : Int) (w : World) : Calls Try.prog 43 #[.int .i64 m] w (Ret (.bool (undB m)) w) := by
  unfold undB
  cases e1 : decide (0 ≤ m)
  all_goals
    go_enter Try.func43, Try.ntmps43
    go_wp2
    go_returns
    exact ⟨rfl, (by repeat' (first | (with_reducible exact Grows.refl _) | (with_reducible refine Grows.alloc ?_ _) | (with_reducible refine Grows.drew ?_) | (with_reducible refine Grows.ext ?_ _ _)))⟩
end Go.Proofs.Ytafokiobbceibaa
