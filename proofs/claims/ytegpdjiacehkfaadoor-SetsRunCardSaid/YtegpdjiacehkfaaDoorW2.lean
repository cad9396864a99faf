/-
  Walks: Line and Shown.
-/
import Derived.Test.YtegpdjiacehkfaaDoorRows
import Derived.Test.YtegpdjiacehkfaaDoorDefs
import Derived.Test.YtegpdjiacehkfaaDoorW1
import Derived.WalkKit
import Derived.WalkSpells
import Derived.WalkLawsBesides
import Derived.Handy
import Derived.Lib.Hide
import Derived.Deep.Light
import Derived.Deep.LoopGhost
import Derived.BigGuardPart
import Derived.BigQuiet
import Derived.Deep.QuietTactic
namespace Go.Proofs.YtegpdjiacehkfaaDoor
open Go.RowKit


set_option maxHeartbeats 1000000 in
theorem line_same (cp : Int) (w : World) : Calls Tryd.prog 21 #[.int .i64 cp] w (fun e w' => e = .returned (.int .i64 (lineOf cp)) ∧ w = w') := by
  by_cases h : 95 ≤ cp ∧ cp < 127
  · obtain ⟨k, hk⟩ : ∃ k : Nat, cp = (k : Int) + 95 := ⟨(cp - 95).toNat, by omega⟩
    subst hk
    have hk : k < 32 := by omega
    rw [lineOf_in hk]
    clear h
    have hk : k = 0 ∨ k = 1 ∨ k = 2 ∨ k = 3 ∨ k = 4 ∨ k = 5 ∨ k = 6 ∨ k = 7 ∨ k = 8 ∨ k = 9 ∨ k = 10 ∨ k = 11 ∨ k = 12 ∨ k = 13 ∨ k = 14 ∨ k = 15 ∨ k = 16 ∨ k = 17 ∨ k = 18 ∨ k = 19 ∨ k = 20 ∨ k = 21 ∨ k = 22 ∨ k = 23 ∨ k = 24 ∨ k = 25 ∨ k = 26 ∨ k = 27 ∨ k = 28 ∨ k = 29 ∨ k = 30 ∨ k = 31 := by omega
    rcases hk with rfl | rfl | rfl | rfl | rfl | rfl | rfl | rfl | rfl | rfl | rfl | rfl | rfl | rfl | rfl | rfl | rfl | rfl | rfl | rfl | rfl | rfl | rfl | rfl | rfl | rfl | rfl | rfl | rfl | rfl | rfl | rfl
    all_goals
      go_enter Tryd.func21, Tryd.ntmps21
      go_wp2
      go_ret
      exact ⟨rfl, rfl⟩
  · have H := Lib.hid (lineOf_out h)
    have hne : ∀ c : Int, 95 ≤ c → c < 127 → (cp == c) = false := by
      intro c h1 h2
      rw [beq_eq_false_iff_ne]
      omega
    clear h
    go_enter Tryd.func21, Tryd.ntmps21
    go_wp2
    go_ret
    exact ⟨ret_int H.out.symm, rfl⟩

theorem line_any (cp : Int) (w : World) : Calls Tryd.prog 21 #[.int .i64 cp] w (Ret (.int .i64 (lineOf cp)) w) :=
  (line_same cp w).mono fun _ _ ⟨he, hw⟩ => ⟨he, hw ▸ Grows.refl _⟩
theorem line_at (k : Nat) (hk : k < 32) (w : World) : Calls Tryd.prog 21 #[.int .i64 ((k : Int) + 95)] w (fun e w' => e = .returned (.int .i64 (signAt k)) ∧ w = w') := by
  rw [← lineOf_in hk]
  exact line_same _ w

end Go.Proofs.YtegpdjiacehkfaaDoor
