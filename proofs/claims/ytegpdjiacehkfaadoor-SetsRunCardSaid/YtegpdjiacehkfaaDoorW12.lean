/-
  Walk: the law SetsCodes.
-/
import Derived.Test.YtegpdjiacehkfaaDoorRows
import Derived.Test.YtegpdjiacehkfaaDoorDefs
import Derived.Test.YtegpdjiacehkfaaDoorW2
import Derived.Test.YtegpdjiacehkfaaDoorW9
import Derived.Test.YtegpdjiacehkfaaDoorW10
import Derived.Test.YtegpdjiacehkfaaDoorW11
import Derived.WalkKit
import Derived.WalkSpells
import Derived.WalkLawsBesides
import Derived.Handy
import Derived.Lib.Hide
import Derived.Deep.Light
import Derived.Deep.LoopGhost
import Derived.BigGuardPart
import Derived.BigQuiet
import Derived.Deep.QuietTactic
namespace Go.Proofs.YtegpdjiacehkfaaDoor
open Go.RowKit


def hitK (s : Int) : Option Nat := (List.range 32).find? fun k => signAt k == s
def codeV (s : Int) : Int := match hitK s with | some k => 95 + k | Option.none => 0
def codeB (s : Int) : Bool := (hitK s).isSome
theorem hitK_some {s : Int} {k : Nat} (h : hitK s = some k) : k < 32 ∧ signAt k = s := by
  unfold hitK at h
  have h1 := List.find?_some h
  have h2 := List.mem_of_find?_eq_some h
  exact ⟨by simpa using h2, by simpa using h1⟩
theorem hitK_none {s : Int} (h : hitK s = Option.none) (k : Nat) (hk : k < 32) : signAt k ≠ s := by
  unfold hitK at h
  rw [List.find?_eq_none] at h
  have := h k (by simpa using hk)
  simpa using this
theorem code_any (s : Int) (w : World) (hg : SG w) : Calls Tryd.prog 22 #[.int .i64 s] w (Ret (.tuple #[.int .i64 (codeV s), .bool (codeB s)]) w) := by
  unfold codeV codeB
  cases h : hitK s with
  | some k => exact code_hit s k (hitK_some h).1 (hitK_some h).2 w hg
  | none => exact code_miss s (hitK_none h) w hg
theorem rcode_any (s : Int) (w : World) : Calls Tryd.prog 23 #[.int .i64 s] w (Ret (.tuple #[.int .i64 (codeV s), .bool (codeB s)]) w) := by
  unfold codeV codeB
  cases h : hitK s with
  | some k => exact rcode_hit s k (hitK_some h).1 (hitK_some h).2 w
  | none => exact rcode_miss s (hitK_none h) w
theorem idx41_0 (x0 x1 x2 : Value) (w : World) : (Instr.index 41 (.agg #[x0, x1, x2]) (.int .i64 0)).run Tryd.prog w = .ok x0 w := by kernel_rfl
theorem idx41_1 (x0 x1 x2 : Value) (w : World) : (Instr.index 41 (.agg #[x0, x1, x2]) (.int .i64 1)).run Tryd.prog w = .ok x1 w := by kernel_rfl
theorem idx41_2 (x0 x1 x2 : Value) (w : World) : (Instr.index 41 (.agg #[x0, x1, x2]) (.int .i64 2)).run Tryd.prog w = .ok x2 w := by kernel_rfl

theorem index41 (x y z : Int) (k : Nat) (hk : k < 3) : ∃ v : Int, ∀ w, (Instr.index 41 (.agg #[.int .i64 x, .int .i64 y, .int .i64 z]) (.int .i64 k)).run Tryd.prog w = .ok (.int .i64 v) w := by
  have hk : k = 0 ∨ k = 1 ∨ k = 2 := by omega
  rcases hk with rfl | rfl | rfl
  · exact ⟨x, idx41_0 _ _ _⟩
  · exact ⟨y, idx41_1 _ _ _⟩
  · exact ⟨z, idx41_2 _ _ _⟩

set_option maxRecDepth 100000 in
set_option maxHeartbeats 1000000 in
theorem codes_true (sign : Int) (w : World) (hg : SG w) : Calls Tryd.prog 5 #[.int .i64 sign] w (Ret (.bool true) w) := by
  go_enter Tryd.func5, Tryd.ntmps5
  go_wp2
  go_loopw [3] (fun i wr => ∃ k : Nat, k ≤ 34 ∧ i = .int .i64 ((k : Int) + 94) ∧ Grows w wr) (fun i _ => 128 - (intOf i).toNat)
  case atStart => exact ⟨0, by omega, by simp, Grows.refl _⟩
  case round =>
    obtain ⟨k, hk, rfl, h0, d0, rfl⟩ := hrel
    by_cases hkn : k = 34
    · subst hkn
      go_wp2_with (go_at_call 14; refine (works_true _ (hg.grows (by repeat' (first | (with_reducible exact Grows.refl _) | (with_reducible refine Grows.alloc ?_ _) | (with_reducible refine Grows.drew ?_) | (with_reducible refine Grows.ext ?_ _ _))))).mono ?_; rintro e w' ⟨rfl, h1, d1, rfl⟩)
      go_ret
      exact ⟨rfl, (by repeat' (first | (with_reducible exact Grows.refl _) | (with_reducible refine Grows.alloc ?_ _) | (with_reducible refine Grows.drew ?_) | (with_reducible refine Grows.ext ?_ _ _)))⟩
    · have hlt : decide ((k : Int) + 94 < 128) = true := by simp; omega
      go_wp2_with (go_at_call 21; refine (line_same _ _).mono ?_; rintro e w' ⟨rfl, rfl⟩)
      go_loopw [19] (fun i wr => ∃ j : Nat, j ≤ 3 ∧ i = .int .i64 j ∧ Grows w wr) (fun i _ => 3 - (intOf i).toNat)
      case atStart => exact ⟨0, by omega, rfl, (by repeat' (first | (with_reducible exact Grows.refl _) | (with_reducible refine Grows.alloc ?_ _) | (with_reducible refine Grows.drew ?_) | (with_reducible refine Grows.ext ?_ _ _)))⟩
      case round =>
        obtain ⟨j, hj, rfl, h1, d1, rfl⟩ := hrel
        by_cases hjn : j = 3
        · subst hjn
          go_wp2
          go_roundw
          case rel => exact ⟨k + 1, by omega, by go_num, (by repeat' (first | (with_reducible exact Grows.refl _) | (with_reducible refine Grows.alloc ?_ _) | (with_reducible refine Grows.drew ?_) | (with_reducible refine Grows.ext ?_ _ _)))⟩
          case measure => simp [intOf]; omega
        · obtain ⟨v, hv⟩ := index41 sign ((k : Int) + 94) (lineOf ((k : Int) + 94)) j (by omega)
          have hjlt : decide ((j : Int) < 3) = true := by simp; omega
          go_wp2_with (first | (go_at_call 22; refine (code_any _ _ (hg.grows (by repeat' (first | (with_reducible exact Grows.refl _) | (with_reducible refine Grows.alloc ?_ _) | (with_reducible refine Grows.drew ?_) | (with_reducible refine Grows.ext ?_ _ _))))).mono ?_; rintro e w' ⟨rfl, h2, d2, rfl⟩) | (go_at_call 23; refine (rcode_any _ _).mono ?_; rintro e w' ⟨rfl, h3, d3, rfl⟩))
          go_roundw
          case rel => exact ⟨j + 1, by omega, by go_num, (by repeat' (first | (with_reducible exact Grows.refl _) | (with_reducible refine Grows.alloc ?_ _) | (with_reducible refine Grows.drew ?_) | (with_reducible refine Grows.ext ?_ _ _)))⟩
          case measure => simp [intOf]; omega
end Go.Proofs.YtegpdjiacehkfaaDoor
