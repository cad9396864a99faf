/-
  Walk: the law SetsTell.
-/
import Derived.Test.YtegpdjiacehkfaaDoorRows
import Derived.Test.YtegpdjiacehkfaaDoorArr
import Derived.Test.YtegpdjiacehkfaaDoorDefs
import Derived.Test.YtegpdjiacehkfaaDoorW1
import Derived.Test.YtegpdjiacehkfaaDoorW2
import Derived.Test.YtegpdjiacehkfaaDoorW3
import Derived.Test.YtegpdjiacehkfaaDoorW4
import Derived.Test.YtegpdjiacehkfaaDoorW5
import Derived.Test.YtegpdjiacehkfaaDoorW10
import Derived.Test.YtegpdjiacehkfaaDoorW11
import Derived.WalkKit
import Derived.WalkSpells
import Derived.WalkLawsBesides
import Derived.Handy
import Derived.Lib.Hide
import Derived.Deep.Light
import Derived.Deep.LoopGhost
import Derived.BigGuardPart
import Derived.Deep.RegionHeld3
import Derived.BigQuiet
import Derived.Deep.QuietTactic
namespace Go.Proofs.YtegpdjiacehkfaaDoor
open Go.RowKit


theorem idx26_0 (x0 x1 x2 x3 x4 x5 x6 x7 x8 x9 xa xb : Value) (w : World) : (Instr.index 26 (.agg #[x0, x1, x2, x3, x4, x5, x6, x7, x8, x9, xa, xb]) (.int .i64 0)).run Tryd.prog w = .ok (.agg #[x0, x1, x2, x3, x4, x5]) w := by kernel_rfl
theorem idx26_1 (x0 x1 x2 x3 x4 x5 x6 x7 x8 x9 xa xb : Value) (w : World) : (Instr.index 26 (.agg #[x0, x1, x2, x3, x4, x5, x6, x7, x8, x9, xa, xb]) (.int .i64 1)).run Tryd.prog w = .ok (.agg #[x6, x7, x8, x9, xa, xb]) w := by kernel_rfl
theorem index26 (a b c d u o p q r s t v : Int) (hu : In64 u) (ht : In64 t) (k : Nat) (hk : k < 2) : ∃ y0 y1 y2 y3 y4 y5 : Int, In64 y4 ∧ ∀ w, (Instr.index 26 (.agg #[.int .i64 a, .int .i64 b, .int .i64 c, .int .i64 d, .int .i64 u, .int .i64 o, .int .i64 p, .int .i64 q, .int .i64 r, .int .i64 s, .int .i64 t, .int .i64 v]) (.int .i64 k)).run Tryd.prog w = .ok (.agg #[.int .i64 y0, .int .i64 y1, .int .i64 y2, .int .i64 y3, .int .i64 y4, .int .i64 y5]) w := by
  have hk : k = 0 ∨ k = 1 := by omega
  rcases hk with rfl | rfl
  · exact ⟨a, b, c, d, u, o, hu, idx26_0 _ _ _ _ _ _ _ _ _ _ _ _⟩
  · exact ⟨p, q, r, s, t, v, ht, idx26_1 _ _ _ _ _ _ _ _ _ _ _ _⟩

set_option maxRecDepth 100000 in
set_option maxHeartbeats 4000000 in
theorem tell_true (a b c d u o bb cp : Int) (hu : In64 u) (hb0 : 0 ≤ bb) (hb1 : bb < 256) (w : World) (hg : SG w) : Calls Tryd.prog 3 #[.agg #[.int .i64 a, .int .i64 b, .int .i64 c, .int .i64 d, .int .i64 u, .int .i64 o], .int .u8 bb, .int .i64 cp] w (Ret (.bool true) w) := by
  have ht : In64 (bb / 16 % 2) := by unfold In64; omega
  have hix := fun k hk => index26 a b c d u o (bb % 2) (bb / 2 % 2) (bb / 4 % 2) (bb / 8 % 2) (bb / 16 % 2) (onceOf (bb / 32 % 4)) hu ht k hk
  have Hix := Lib.hid hix
  have heq := arr_eq_at
  clear hix ht hu
  go_enter Tryd.func3, Tryd.ntmps3
  go_wp2
  go_region_held3 (fun w' => w'.cell? ⟨w.heap.size, 0, none⟩ = some (.int .i64 a) ∧ w'.cell? ⟨w.heap.size, 1, none⟩ = some (.int .i64 b) ∧ w'.cell? ⟨w.heap.size, 2, none⟩ = some (.int .i64 c) ∧ w'.cell? ⟨w.heap.size, 3, none⟩ = some (.int .i64 d) ∧ w'.cell? ⟨w.heap.size, 4, none⟩ = some (.int .i64 u) ∧ w'.cell? ⟨w.heap.size, 5, none⟩ = some (.int .i64 o)) (simp [go_sem]) (first | (go_at_call 9; refine (of_any _ hb0 hb1 _).mono ?_; rintro e w' ⟨rfl, h1, d1, rfl⟩))
  go_wp2
  go_loopw [21] (fun i wr => ∃ k : Nat, k ≤ 2 ∧ i = .int .i64 k ∧ Grows w wr) (fun i _ => 2 - (intOf i).toNat)
  case atStart => exact ⟨0, by omega, rfl, (by repeat' (first | (with_reducible exact Grows.refl _) | (with_reducible refine Grows.alloc ?_ _) | (with_reducible refine Grows.drew ?_) | (with_reducible refine Grows.ext ?_ _ _)))⟩
  case round =>
    obtain ⟨k, hk, rfl, h0, d0, rfl⟩ := hrel
    by_cases hkn : k = 2
    · subst hkn
      go_wp2_with (go_at_call 14; refine (works_true _ (hg.grows (by repeat' (first | (with_reducible exact Grows.refl _) | (with_reducible refine Grows.alloc ?_ _) | (with_reducible refine Grows.drew ?_) | (with_reducible refine Grows.ext ?_ _ _))))).mono ?_; rintro e w' ⟨rfl, h1, d1, rfl⟩)
      go_ret
      exact ⟨rfl, (by repeat' (first | (with_reducible exact Grows.refl _) | (with_reducible refine Grows.alloc ?_ _) | (with_reducible refine Grows.drew ?_) | (with_reducible refine Grows.ext ?_ _ _)))⟩
    · obtain ⟨y0, y1, y2, y3, y4, y5, hi, hix⟩ := Hix.out k (by omega)
      have hlt : decide ((k : Int) < 2) = true := by simp; omega
      cases hv : rightB y0 y1 y2 y3 y4 y5
      all_goals
        go_wp2
        go_region_held3 (fun w' => w'.cell? ⟨w.heap.size + h0.size, 0, none⟩ = some (.int .i64 y0) ∧ w'.cell? ⟨w.heap.size + h0.size, 1, none⟩ = some (.int .i64 y1) ∧ w'.cell? ⟨w.heap.size + h0.size, 2, none⟩ = some (.int .i64 y2) ∧ w'.cell? ⟨w.heap.size + h0.size, 3, none⟩ = some (.int .i64 y3) ∧ w'.cell? ⟨w.heap.size + h0.size, 4, none⟩ = some (.int .i64 y4) ∧ w'.cell? ⟨w.heap.size + h0.size, 5, none⟩ = some (.int .i64 y5)) (simp [go_sem]) (first | (go_at_call 10; refine (check_any _ _ _ _ _ _ hi _).mono ?_; rintro e w' ⟨rfl, h1, d1, rfl⟩) | (go_at_call 11; refine (rcheck_any _ _ _ _ _ _ _).mono ?_; rintro e w' ⟨rfl, h1, d1, rfl⟩))
        go_wp2
        go_loopw [9] (fun i wr => ∃ j : Nat, j ≤ 131 ∧ i = .int .i64 ((j : Int) - 1) ∧ Grows ((ext w h0 d0).alloc (.cells #[.int .i64 y0, .int .i64 y1, .int .i64 y2, .int .i64 y3, .int .i64 y4, .int .i64 y5] 24)) wr) (fun i _ => (130 - intOf i).toNat)
        case atStart => exact ⟨0, by omega, rfl, (by repeat' (first | (with_reducible exact Grows.refl _) | (with_reducible refine Grows.alloc ?_ _) | (with_reducible refine Grows.drew ?_) | (with_reducible refine Grows.ext ?_ _ _)))⟩
        case round =>
          obtain ⟨j, hj, rfl, h2, d2, rfl⟩ := hrel
          by_cases hjn : j = 131
          · subst hjn
            go_wp2
            go_roundw
            case rel => exact ⟨k + 1, by omega, by go_num, (by repeat' (first | (with_reducible exact Grows.refl _) | (with_reducible refine Grows.alloc ?_ _) | (with_reducible refine Grows.drew ?_) | (with_reducible refine Grows.ext ?_ _ _)))⟩
            case measure => simp [intOf]; omega
          · have hjlt : decide ((j : Int) - 1 < 130) = true := by simp; omega
            by_cases hneg : (j : Int) - 1 < 0
            · have hj0 : decide ((j : Int) - 1 < 0) = true := by simp; omega
              clear hneg
              go_wp2_with (first | (go_at_call 12; (first | (with_reducible refine (shown_no _ _ _ _ _ _ _ hi hv _).mono ?_) | (with_reducible refine (shown_yes _ _ _ _ _ _ _ hv _ (hg.grows (by repeat' (first | (with_reducible exact Grows.refl _) | (with_reducible refine Grows.alloc ?_ _) | (with_reducible refine Grows.drew ?_) | (with_reducible refine Grows.ext ?_ _ _))))).mono ?_)); rintro e w' ⟨rfl, h3, d3, rfl⟩) | (go_at_call 13; (first | (with_reducible refine (rshown_no _ _ _ _ _ _ _ hv _).mono ?_) | (with_reducible refine (rshown_yes _ _ _ _ _ _ _ hv _).mono ?_)); rintro e w' ⟨rfl, h3, d3, rfl⟩))
              go_roundw
              case rel => exact ⟨j + 1, by omega, by go_num, (by repeat' (first | (with_reducible exact Grows.refl _) | (with_reducible refine Grows.alloc ?_ _) | (with_reducible refine Grows.drew ?_) | (with_reducible refine Grows.ext ?_ _ _)))⟩
              case measure => simp [intOf]; omega
            · have hj0 : decide ((j : Int) - 1 < 0) = false := by simp; omega
              clear hneg
              go_wp2_with (first | (go_at_call 12; (first | (with_reducible refine (shown_no _ _ _ _ _ _ _ hi hv _).mono ?_) | (with_reducible refine (shown_yes _ _ _ _ _ _ _ hv _ (hg.grows (by repeat' (first | (with_reducible exact Grows.refl _) | (with_reducible refine Grows.alloc ?_ _) | (with_reducible refine Grows.drew ?_) | (with_reducible refine Grows.ext ?_ _ _))))).mono ?_)); rintro e w' ⟨rfl, h3, d3, rfl⟩) | (go_at_call 13; (first | (with_reducible refine (rshown_no _ _ _ _ _ _ _ hv _).mono ?_) | (with_reducible refine (rshown_yes _ _ _ _ _ _ _ hv _).mono ?_)); rintro e w' ⟨rfl, h3, d3, rfl⟩))
              go_roundw
              case rel => exact ⟨j + 1, by omega, by go_num, (by repeat' (first | (with_reducible exact Grows.refl _) | (with_reducible refine Grows.alloc ?_ _) | (with_reducible refine Grows.drew ?_) | (with_reducible refine Grows.ext ?_ _ _)))⟩
              case measure => simp [intOf]; omega
end Go.Proofs.YtegpdjiacehkfaaDoor
