/-
  Walk: the law SetsTurn.
-/
import Derived.Test.YtegpdjiacehkfaaDoorRows
import Derived.Test.YtegpdjiacehkfaaDoorArr
import Derived.Test.YtegpdjiacehkfaaDoorLt
import Derived.Test.YtegpdjiacehkfaaDoorDefs
import Derived.Test.YtegpdjiacehkfaaDoorW7
import Derived.Test.YtegpdjiacehkfaaDoorW8
import Derived.Test.YtegpdjiacehkfaaDoorW10
import Derived.Test.YtegpdjiacehkfaaDoorW11
import Derived.Test.YtegpdjiacehkfaaDoorW13
import Derived.WalkKit
import Derived.WalkSpells
import Derived.WalkLawsBesides
import Derived.Handy
import Derived.Lib.Hide
import Derived.Deep.Light
import Derived.Deep.LoopGhost
import Derived.BigGuardPart
import Derived.Deep.RegionHeld3
import Derived.BigQuiet
import Derived.Deep.QuietTactic
namespace Go.Proofs.YtegpdjiacehkfaaDoor
open Go.RowKit


def sel (c : Bool) (x : Int) : Int := if c then x else 0
def er (r c : Bool) : Int := if r then (if c then 0 else 2) else 250
def okL (a b c d u o i : Int) : Bool := rightB a b c d u o && decide (0 ≤ i ∧ i ≤ 1)
def okS (a b c d u o i : Int) : Bool := rightB a b c d u o && decide (2 ≤ i ∧ i ≤ 3)
def okC (a b c d u o i k : Int) : Bool := rightB a b c d u o && decide (0 ≤ i ∧ i ≤ 3 ∧ 0 ≤ k ∧ k ≤ 1)
theorem lock_any (a b c d u o i : Int) (hi : In64 u) (w : World) : Calls Tryd.prog 17 #[.agg #[.int .i64 a, .int .i64 b, .int .i64 c, .int .i64 d, .int .i64 u, .int .i64 o], .int .i64 i] w (Ret (.tuple #[.agg #[.int .i64 (sel (okL a b c d u o i) a), .int .i64 (sel (okL a b c d u o i) b), .int .i64 (sel (okL a b c d u o i) c), .int .i64 (sel (okL a b c d u o i) d), .int .i64 (sel (okL a b c d u o i) i), .int .i64 (sel (okL a b c d u o i) o)], .int .i64 (er (rightB a b c d u o) (okL a b c d u o i))]) w) := by
  unfold okL
  cases h : rightB a b c d u o
  · exact lock_no a b c d u o i hi h w
  · by_cases hb : 0 ≤ i ∧ i ≤ 1
    · rw [decide_eq_true hb]
      exact lock_ok a b c d u o i hi h hb w
    · rw [decide_eq_false hb]
      exact lock_bad a b c d u o i hi h (by omega) w
theorem rlock_any (a b c d u o i : Int) (w : World) : Calls Tryd.prog 18 #[.agg #[.int .i64 a, .int .i64 b, .int .i64 c, .int .i64 d, .int .i64 u, .int .i64 o], .int .i64 i] w (Ret (.tuple #[.agg #[.int .i64 (sel (okL a b c d u o i) a), .int .i64 (sel (okL a b c d u o i) b), .int .i64 (sel (okL a b c d u o i) c), .int .i64 (sel (okL a b c d u o i) d), .int .i64 (sel (okL a b c d u o i) i), .int .i64 (sel (okL a b c d u o i) o)], .int .i64 (er (rightB a b c d u o) (okL a b c d u o i))]) w) := by
  unfold okL
  cases h : rightB a b c d u o
  · exact rlock_no a b c d u o i h w
  · by_cases hb : 0 ≤ i ∧ i ≤ 1
    · rw [decide_eq_true hb]
      exact rlock_ok a b c d u o i h hb w
    · rw [decide_eq_false hb]
      exact rlock_bad a b c d u o i h (by omega) w
theorem single_any (a b c d u o i : Int) (hi : In64 u) (w : World) : Calls Tryd.prog 19 #[.agg #[.int .i64 a, .int .i64 b, .int .i64 c, .int .i64 d, .int .i64 u, .int .i64 o], .int .i64 i] w (Ret (.tuple #[.agg #[.int .i64 (sel (okS a b c d u o i) a), .int .i64 (sel (okS a b c d u o i) b), .int .i64 (sel (okS a b c d u o i) c), .int .i64 (sel (okS a b c d u o i) d), .int .i64 (sel (okS a b c d u o i) u), .int .i64 (sel (okS a b c d u o i) i)], .int .i64 (er (rightB a b c d u o) (okS a b c d u o i))]) w) := by
  unfold okS
  cases h : rightB a b c d u o
  · exact single_no a b c d u o i hi h w
  · by_cases hb : 2 ≤ i ∧ i ≤ 3
    · rw [decide_eq_true hb]
      exact single_ok a b c d u o i hi h hb w
    · rw [decide_eq_false hb]
      exact single_bad a b c d u o i hi h (by omega) w
theorem rsingle_any (a b c d u o i : Int) (w : World) : Calls Tryd.prog 20 #[.agg #[.int .i64 a, .int .i64 b, .int .i64 c, .int .i64 d, .int .i64 u, .int .i64 o], .int .i64 i] w (Ret (.tuple #[.agg #[.int .i64 (sel (okS a b c d u o i) a), .int .i64 (sel (okS a b c d u o i) b), .int .i64 (sel (okS a b c d u o i) c), .int .i64 (sel (okS a b c d u o i) d), .int .i64 (sel (okS a b c d u o i) u), .int .i64 (sel (okS a b c d u o i) i)], .int .i64 (er (rightB a b c d u o) (okS a b c d u o i))]) w) := by
  unfold okS
  cases h : rightB a b c d u o
  · exact rsingle_no a b c d u o i h w
  · by_cases hb : 2 ≤ i ∧ i ≤ 3
    · rw [decide_eq_true hb]
      exact rsingle_ok a b c d u o i h hb w
    · rw [decide_eq_false hb]
      exact rsingle_bad a b c d u o i h (by omega) w
theorem choose_any (a b c d u o i k : Int) (hi : In64 u) (w : World) : Calls Tryd.prog 15 #[.agg #[.int .i64 a, .int .i64 b, .int .i64 c, .int .i64 d, .int .i64 u, .int .i64 o], .int .i64 i, .int .i64 k] w (Ret (.tuple #[.agg #[.int .i64 (sel (okC a b c d u o i k) (pk i 0 k a)), .int .i64 (sel (okC a b c d u o i k) (pk i 1 k b)), .int .i64 (sel (okC a b c d u o i k) (pk i 2 k c)), .int .i64 (sel (okC a b c d u o i k) (pk i 3 k d)), .int .i64 (sel (okC a b c d u o i k) u), .int .i64 (sel (okC a b c d u o i k) o)], .int .i64 (er (rightB a b c d u o) (okC a b c d u o i k))]) w) := by
  unfold okC
  cases h : rightB a b c d u o
  · exact choose_no a b c d u o i k hi h w
  · by_cases hb : 0 ≤ i ∧ i ≤ 3 ∧ 0 ≤ k ∧ k ≤ 1
    · rw [decide_eq_true hb]
      exact choose_ok a b c d u o i k hi h (by omega) (by omega) w
    · rw [decide_eq_false hb]
      by_cases hk : 0 ≤ k ∧ k ≤ 1
      · exact choose_num a b c d u o i k hi h hk (by omega) w
      · exact choose_kind a b c d u o i k hi h (by omega) w
theorem rchoose_any (a b c d u o i k : Int) (w : World) : Calls Tryd.prog 16 #[.agg #[.int .i64 a, .int .i64 b, .int .i64 c, .int .i64 d, .int .i64 u, .int .i64 o], .int .i64 i, .int .i64 k] w (Ret (.tuple #[.agg #[.int .i64 (sel (okC a b c d u o i k) (pk i 0 k a)), .int .i64 (sel (okC a b c d u o i k) (pk i 1 k b)), .int .i64 (sel (okC a b c d u o i k) (pk i 2 k c)), .int .i64 (sel (okC a b c d u o i k) (pk i 3 k d)), .int .i64 (sel (okC a b c d u o i k) u), .int .i64 (sel (okC a b c d u o i k) o)], .int .i64 (er (rightB a b c d u o) (okC a b c d u o i k))]) w) := by
  unfold okC
  cases h : rightB a b c d u o
  · exact rchoose_no a b c d u o i k h w
  · by_cases hb : 0 ≤ i ∧ i ≤ 3 ∧ 0 ≤ k ∧ k ≤ 1
    · rw [decide_eq_true hb]
      exact rchoose_ok a b c d u o i k h (by omega) (by omega) w
    · rw [decide_eq_false hb]
      exact rchoose_bad a b c d u o i k h (by omega) w

theorem idx35_0 (x0 x1 x2 x3 : Value) (w : World) : (Instr.index 35 (.agg #[x0, x1, x2, x3]) (.int .i64 0)).run Tryd.prog w = .ok (.agg #[x0, x1]) w := by kernel_rfl
theorem idx35_1 (x0 x1 x2 x3 : Value) (w : World) : (Instr.index 35 (.agg #[x0, x1, x2, x3]) (.int .i64 1)).run Tryd.prog w = .ok (.agg #[x2, x3]) w := by kernel_rfl
theorem index35 (n m p q : Int) (k : Nat) (hk : k < 2) : ∃ z0 z1 : Int, ∀ w, (Instr.index 35 (.agg #[.int .i64 n, .int .i64 m, .int .i64 p, .int .i64 q]) (.int .i64 k)).run Tryd.prog w = .ok (.agg #[.int .i64 z0, .int .i64 z1]) w := by
  have hk : k = 0 ∨ k = 1 := by omega
  rcases hk with rfl | rfl
  · exact ⟨n, m, idx35_0 _ _ _ _⟩
  · exact ⟨p, q, idx35_1 _ _ _ _⟩

set_option maxRecDepth 100000 in
set_option maxHeartbeats 4000000 in
theorem turn_true (a b c d u o bb n m : Int) (hu : In64 u) (hb0 : 0 ≤ bb) (hb1 : bb < 256) (w : World) (hg : SG w) : Calls Tryd.prog 4 #[.agg #[.int .i64 a, .int .i64 b, .int .i64 c, .int .i64 d, .int .i64 u, .int .i64 o], .int .u8 bb, .agg #[.int .i64 n, .int .i64 m]] w (Ret (.bool true) w) := by
  have ht : In64 (bb / 16 % 2) := by unfold In64; omega
  have hix := fun k hk => index26 a b c d u o (bb % 2) (bb / 2 % 2) (bb / 4 % 2) (bb / 8 % 2) (bb / 16 % 2) (onceOf (bb / 32 % 4)) hu ht k hk
  have Hix := Lib.hid hix
  have heq := arr_eq_at
  clear hix ht hu
  go_enter Tryd.func4, Tryd.ntmps4
  go_wp2
  go_region_held3 (fun w' => w'.cell? ⟨w.heap.size, 0, none⟩ = some (.int .i64 a) ∧ w'.cell? ⟨w.heap.size, 1, none⟩ = some (.int .i64 b) ∧ w'.cell? ⟨w.heap.size, 2, none⟩ = some (.int .i64 c) ∧ w'.cell? ⟨w.heap.size, 3, none⟩ = some (.int .i64 d) ∧ w'.cell? ⟨w.heap.size, 4, none⟩ = some (.int .i64 u) ∧ w'.cell? ⟨w.heap.size, 5, none⟩ = some (.int .i64 o)) (simp [go_sem]) (first | (go_at_call 9; refine (of_any _ hb0 hb1 _).mono ?_; rintro e w' ⟨rfl, h1, d1, rfl⟩))
  go_wp2
  go_loopw [27] (fun i wr => ∃ k : Nat, k ≤ 2 ∧ i = .int .i64 k ∧ Grows ((w.alloc (.cells #[.int .i64 a, .int .i64 b, .int .i64 c, .int .i64 d, .int .i64 u, .int .i64 o] 24)).alloc (.cells #[.int .i64 n, .int .i64 m] 33)) wr) (fun i _ => 2 - (intOf i).toNat)
  case atStart => exact ⟨0, by omega, rfl, (by repeat' (first | (with_reducible exact Grows.refl _) | (with_reducible refine Grows.alloc ?_ _) | (with_reducible refine Grows.drew ?_) | (with_reducible refine Grows.ext ?_ _ _)))⟩
  case round =>
    obtain ⟨k, hk, rfl, h0, d0, rfl⟩ := hrel
    by_cases hkn : k = 2
    · subst hkn
      go_wp2_with (go_at_call 14; refine (works_true _ (hg.grows (by repeat' (first | (with_reducible exact Grows.refl _) | (with_reducible refine Grows.alloc ?_ _) | (with_reducible refine Grows.drew ?_) | (with_reducible refine Grows.ext ?_ _ _))))).mono ?_; rintro e w' ⟨rfl, h1, d1, rfl⟩)
      go_ret
      exact ⟨rfl, (by repeat' (first | (with_reducible exact Grows.refl _) | (with_reducible refine Grows.alloc ?_ _) | (with_reducible refine Grows.drew ?_) | (with_reducible refine Grows.ext ?_ _ _)))⟩
    · obtain ⟨y0, y1, y2, y3, y4, y5, hi, hix⟩ := Hix.out k (by omega)
      have hlt : decide ((k : Int) < 2) = true := by simp; omega
      go_wp2
      go_loopw [45] (fun i wr => ∃ j : Nat, j ≤ 2 ∧ i = .int .i64 j ∧ Grows ((ext ((w.alloc (.cells #[.int .i64 a, .int .i64 b, .int .i64 c, .int .i64 d, .int .i64 u, .int .i64 o] 24)).alloc (.cells #[.int .i64 n, .int .i64 m] 33)) h0 d0).alloc (.cells #[.int .i64 y0, .int .i64 y1, .int .i64 y2, .int .i64 y3, .int .i64 y4, .int .i64 y5] 24)) wr) (fun i _ => 2 - (intOf i).toNat)
      case atStart => exact ⟨0, by omega, rfl, (by repeat' (first | (with_reducible exact Grows.refl _) | (with_reducible refine Grows.alloc ?_ _) | (with_reducible refine Grows.drew ?_) | (with_reducible refine Grows.ext ?_ _ _)))⟩
      case round =>
        obtain ⟨j, hj, rfl, h2, d2, rfl⟩ := hrel
        by_cases hjn : j = 2
        · subst hjn
          go_wp2
          go_roundw
          case rel => exact ⟨k + 1, by omega, by go_num, (by repeat' (first | (with_reducible exact Grows.refl _) | (with_reducible refine Grows.alloc ?_ _) | (with_reducible refine Grows.drew ?_) | (with_reducible refine Grows.ext ?_ _ _)))⟩
          case measure => simp [intOf]; omega
        · obtain ⟨z0, z1, hz⟩ := index35 n m (wrap64 (wrap64 ((IntKind.u64.wrap n).tmod 6) - 1)) (wrap64 (wrap64 ((IntKind.u64.wrap m).tmod 4) - 1)) j (by omega)
          have hjlt : decide ((j : Int) < 2) = true := by simp; omega
          go_wp2_with (first | (go_at_call 15; refine (choose_any _ _ _ _ _ _ _ _ hi _).mono ?_; rintro e w' ⟨rfl, h3, d3, rfl⟩) | (go_at_call 16; refine (rchoose_any _ _ _ _ _ _ _ _ _).mono ?_; rintro e w' ⟨rfl, h3, d3, rfl⟩) | (go_at_call 17; refine (lock_any _ _ _ _ _ _ _ hi _).mono ?_; rintro e w' ⟨rfl, h3, d3, rfl⟩) | (go_at_call 18; refine (rlock_any _ _ _ _ _ _ _ _).mono ?_; rintro e w' ⟨rfl, h3, d3, rfl⟩) | (go_at_call 19; refine (single_any _ _ _ _ _ _ _ hi _).mono ?_; rintro e w' ⟨rfl, h3, d3, rfl⟩) | (go_at_call 20; refine (rsingle_any _ _ _ _ _ _ _ _).mono ?_; rintro e w' ⟨rfl, h3, d3, rfl⟩))
          go_roundw
          case rel => exact ⟨j + 1, by omega, by go_num, (by repeat' (first | (with_reducible exact Grows.refl _) | (with_reducible refine Grows.alloc ?_ _) | (with_reducible refine Grows.drew ?_) | (with_reducible refine Grows.ext ?_ _ _)))⟩
          case measure => simp [intOf]; omega
end Go.Proofs.YtegpdjiacehkfaaDoor
