/-
  Walks: Choose of the program and of the reference.
-/
import Derived.Test.YtegpdjiacehkfaaDoorRows
import Derived.Test.YtegpdjiacehkfaaDoorDefs
import Derived.Test.YtegpdjiacehkfaaDoorW1
import Derived.Test.YtegpdjiacehkfaaDoorW5
import Derived.Test.YtegpdjiacehkfaaDoorW6
import Derived.WalkKit
import Derived.WalkSpells
import Derived.WalkLawsBesides
import Derived.Handy
import Derived.Lib.Hide
import Derived.Deep.Light
import Derived.Deep.LoopGhost
import Derived.BigGuardPart
import Derived.BigQuiet
import Derived.Deep.QuietTactic
namespace Go.Proofs.YtegpdjiacehkfaaDoor
open Go.RowKit


set_option maxHeartbeats 400000 in
theorem say28 (n B C : Nat) (x0 x1 x2 x3 : Value) (i k : Int) (hi : i = 0 ∨ i = 1 ∨ i = 2 ∨ i = 3) (w : World)
    (h0 : w.cell? ⟨n, 0, none⟩ = some x0) (f0 : w.frozen? ⟨n, 0, none⟩ = false) (h1 : w.cell? ⟨n, 1, none⟩ = some x1) (f1 : w.frozen? ⟨n, 1, none⟩ = false)
    (h2 : w.cell? ⟨n, 2, none⟩ = some x2) (f2 : w.frozen? ⟨n, 2, none⟩ = false) (h3 : w.cell? ⟨n, 3, none⟩ = some x3) (f3 : w.frozen? ⟨n, 3, none⟩ = false)
    (hk : w.cell? ⟨B, 0, none⟩ = some (.int .i64 k)) (hc : w.cell? ⟨C, 0, none⟩ = some (.int .i64 i)) :
    Calls Tryd.prog 28 #[.pointer (some ⟨n, 0, none⟩), .pointer (some ⟨B, 0, none⟩), .pointer (some ⟨C, 0, none⟩)] w (fun e w' => e = .returned (.tuple #[]) ∧ (w.setCell ⟨n, i.toNat, none⟩ (.int .i64 k)).drew = w') := by
  rcases hi with rfl | rfl | rfl | rfl
  all_goals
    go_enter Tryd.func28, Tryd.ntmps28
    go_wp2
    go_region
    go_wp2
    go_returns
    exact ⟨rfl, rfl⟩
set_option maxRecDepth 100000 in
set_option maxHeartbeats 1600000 in
theorem turned_choose (a b c d u o i k : Int) (B C : Nat) (hi : In64 u) (h : rightB a b c d u o = true) (hb : i = 0 ∨ i = 1 ∨ i = 2 ∨ i = 3) (w : World) (hB : B < w.heap.size) (hC : C < w.heap.size) (hk : w.cell? ⟨B, 0, none⟩ = some (.int .i64 k)) (hc : w.cell? ⟨C, 0, none⟩ = some (.int .i64 i)) :
    Calls Tryd.prog 26 #[.agg #[.int .i64 a, .int .i64 b, .int .i64 c, .int .i64 d, .int .i64 u, .int .i64 o], .int .i64 i, .int .i64 0, .int .i64 3, .func (.func 28) #[] #[.pointer (some ⟨B, 0, none⟩), .pointer (some ⟨C, 0, none⟩)]] w (Ret (.tuple #[.agg #[.int .i64 (pk i 0 k a), .int .i64 (pk i 1 k b), .int .i64 (pk i 2 k c), .int .i64 (pk i 3 k d), .int .i64 u, .int .i64 o], .int .i64 0]) w) := by
  have hB1 : ∀ n, B < w.heap.size + n := fun n => by omega
  have hB2 : ∀ n m, B < w.heap.size + n + m := fun n m => by omega
  have hC1 : ∀ n, C < w.heap.size + n := fun n => by omega
  have hC2 : ∀ n m, C < w.heap.size + n + m := fun n m => by omega
  rcases hb with rfl | rfl | rfl | rfl
  · go_enter Tryd.func26, Tryd.ntmps26
    go_wp2_with (first | (go_at_call 10; refine (check_any _ _ _ _ _ _ hi _).mono ?_; rintro e w' ⟨rfl, h1, d1, rfl⟩) | (go_at_call 28; refine (say28 _ _ _ (.int .i64 a) (.int .i64 b) (.int .i64 c) (.int .i64 d) 0 k ?_ _ ?_ ?_ ?_ ?_ ?_ ?_ ?_ ?_ ?_ ?_).mono ?_; (all_goals try (simp [go_sem, hB, hB1, hB2, hk, hC, hC1, hC2, hc]; done)); rintro e w' ⟨rfl, rfl⟩))
    go_returns
    exact ⟨rfl, (by repeat' (first | (with_reducible exact Grows.refl _) | (with_reducible refine Grows.alloc ?_ _) | (with_reducible refine Grows.drew ?_) | (with_reducible refine Grows.ext ?_ _ _)))⟩
  · go_enter Tryd.func26, Tryd.ntmps26
    go_wp2_with (first | (go_at_call 10; refine (check_any _ _ _ _ _ _ hi _).mono ?_; rintro e w' ⟨rfl, h1, d1, rfl⟩) | (go_at_call 28; refine (say28 _ _ _ (.int .i64 a) (.int .i64 b) (.int .i64 c) (.int .i64 d) 1 k ?_ _ ?_ ?_ ?_ ?_ ?_ ?_ ?_ ?_ ?_ ?_).mono ?_; (all_goals try (simp [go_sem, hB, hB1, hB2, hk, hC, hC1, hC2, hc]; done)); rintro e w' ⟨rfl, rfl⟩))
    go_returns
    exact ⟨rfl, (by repeat' (first | (with_reducible exact Grows.refl _) | (with_reducible refine Grows.alloc ?_ _) | (with_reducible refine Grows.drew ?_) | (with_reducible refine Grows.ext ?_ _ _)))⟩
  · go_enter Tryd.func26, Tryd.ntmps26
    go_wp2_with (first | (go_at_call 10; refine (check_any _ _ _ _ _ _ hi _).mono ?_; rintro e w' ⟨rfl, h1, d1, rfl⟩) | (go_at_call 28; refine (say28 _ _ _ (.int .i64 a) (.int .i64 b) (.int .i64 c) (.int .i64 d) 2 k ?_ _ ?_ ?_ ?_ ?_ ?_ ?_ ?_ ?_ ?_ ?_).mono ?_; (all_goals try (simp [go_sem, hB, hB1, hB2, hk, hC, hC1, hC2, hc]; done)); rintro e w' ⟨rfl, rfl⟩))
    go_returns
    exact ⟨rfl, (by repeat' (first | (with_reducible exact Grows.refl _) | (with_reducible refine Grows.alloc ?_ _) | (with_reducible refine Grows.drew ?_) | (with_reducible refine Grows.ext ?_ _ _)))⟩
  · go_enter Tryd.func26, Tryd.ntmps26
    go_wp2_with (first | (go_at_call 10; refine (check_any _ _ _ _ _ _ hi _).mono ?_; rintro e w' ⟨rfl, h1, d1, rfl⟩) | (go_at_call 28; refine (say28 _ _ _ (.int .i64 a) (.int .i64 b) (.int .i64 c) (.int .i64 d) 3 k ?_ _ ?_ ?_ ?_ ?_ ?_ ?_ ?_ ?_ ?_ ?_).mono ?_; (all_goals try (simp [go_sem, hB, hB1, hB2, hk, hC, hC1, hC2, hc]; done)); rintro e w' ⟨rfl, rfl⟩))
    go_returns
    exact ⟨rfl, (by repeat' (first | (with_reducible exact Grows.refl _) | (with_reducible refine Grows.alloc ?_ _) | (with_reducible refine Grows.drew ?_) | (with_reducible refine Grows.ext ?_ _ _)))⟩

set_option maxHeartbeats 400000 in
theorem choose_no (a b c d u o i k : Int) (hi : In64 u) (h : rightB a b c d u o = false) (w : World) :
    Calls Tryd.prog 15 #[.agg #[.int .i64 a, .int .i64 b, .int .i64 c, .int .i64 d, .int .i64 u, .int .i64 o], .int .i64 i, .int .i64 k] w (Ret (.tuple #[.agg #[.int .i64 0, .int .i64 0, .int .i64 0, .int .i64 0, .int .i64 0, .int .i64 0], .int .i64 250]) w) := by
  go_enter Tryd.func15, Tryd.ntmps15
  go_wp2_with (go_at_call 26; refine (turned_no _ _ _ _ _ _ _ _ _ _ hi h _).mono ?_; rintro e w' ⟨rfl, h1, d1, rfl⟩)
  go_returns
  exact ⟨rfl, (by repeat' (first | (with_reducible exact Grows.refl _) | (with_reducible refine Grows.alloc ?_ _) | (with_reducible refine Grows.drew ?_) | (with_reducible refine Grows.ext ?_ _ _)))⟩
set_option maxHeartbeats 400000 in
theorem choose_kind (a b c d u o i k : Int) (hi : In64 u) (h : rightB a b c d u o = true) (hb : k < 0 ∨ 1 < k) (w : World) :
    Calls Tryd.prog 15 #[.agg #[.int .i64 a, .int .i64 b, .int .i64 c, .int .i64 d, .int .i64 u, .int .i64 o], .int .i64 i, .int .i64 k] w (Ret (.tuple #[.agg #[.int .i64 0, .int .i64 0, .int .i64 0, .int .i64 0, .int .i64 0, .int .i64 0], .int .i64 2]) w) := by
  go_enter Tryd.func15, Tryd.ntmps15
  go_wp2_with (go_at_call 26; refine (turned_bad _ _ _ _ _ _ _ _ _ _ hi h hb _).mono ?_; rintro e w' ⟨rfl, h1, d1, rfl⟩)
  go_returns
  exact ⟨rfl, (by repeat' (first | (with_reducible exact Grows.refl _) | (with_reducible refine Grows.alloc ?_ _) | (with_reducible refine Grows.drew ?_) | (with_reducible refine Grows.ext ?_ _ _)))⟩
set_option maxHeartbeats 400000 in
theorem choose_num (a b c d u o i k : Int) (hi : In64 u) (h : rightB a b c d u o = true) (hk : 0 ≤ k ∧ k ≤ 1) (hb : i < 0 ∨ 3 < i) (w : World) :
    Calls Tryd.prog 15 #[.agg #[.int .i64 a, .int .i64 b, .int .i64 c, .int .i64 d, .int .i64 u, .int .i64 o], .int .i64 i, .int .i64 k] w (Ret (.tuple #[.agg #[.int .i64 0, .int .i64 0, .int .i64 0, .int .i64 0, .int .i64 0, .int .i64 0], .int .i64 2]) w) := by
  go_enter Tryd.func15, Tryd.ntmps15
  go_wp2_with fail
  refine (turned_noop _ _ _ _ _ _ _ _ _ hi h hk _).mono ?_
  rintro e w' ⟨rfl, h1, d1, rfl⟩
  go_wp2_with fail
  refine (turned_bad _ _ _ _ _ _ _ _ _ _ hi h hb _).mono ?_
  rintro e w' ⟨rfl, h1, d1, rfl⟩
  go_wp2_with fail
  go_returns
  exact ⟨rfl, (by repeat' (first | (with_reducible exact Grows.refl _) | (with_reducible refine Grows.alloc ?_ _) | (with_reducible refine Grows.drew ?_) | (with_reducible refine Grows.ext ?_ _ _)))⟩
set_option maxHeartbeats 400000 in
theorem choose_ok (a b c d u o i k : Int) (hi : In64 u) (h : rightB a b c d u o = true) (hk : 0 ≤ k ∧ k ≤ 1) (hb : i = 0 ∨ i = 1 ∨ i = 2 ∨ i = 3) (w : World) :
    Calls Tryd.prog 15 #[.agg #[.int .i64 a, .int .i64 b, .int .i64 c, .int .i64 d, .int .i64 u, .int .i64 o], .int .i64 i, .int .i64 k] w (Ret (.tuple #[.agg #[.int .i64 (pk i 0 k a), .int .i64 (pk i 1 k b), .int .i64 (pk i 2 k c), .int .i64 (pk i 3 k d), .int .i64 u, .int .i64 o], .int .i64 0]) w) := by
  go_enter Tryd.func15, Tryd.ntmps15
  go_wp2_with fail
  refine (turned_noop _ _ _ _ _ _ _ _ _ hi h hk _).mono ?_
  rintro e w' ⟨rfl, h1, d1, rfl⟩
  go_wp2_with fail
  refine (turned_choose _ _ _ _ _ _ _ k _ _ hi h hb _ ?_ ?_ ?_ ?_).mono ?_
  · simp; omega
  · simp; omega
  · simp [go_sem]
  · simp [go_sem]
  rintro e w' ⟨rfl, h1, d1, rfl⟩
  go_wp2_with fail
  go_returns
  exact ⟨rfl, (by repeat' (first | (with_reducible exact Grows.refl _) | (with_reducible refine Grows.alloc ?_ _) | (with_reducible refine Grows.drew ?_) | (with_reducible refine Grows.ext ?_ _ _)))⟩

set_option maxHeartbeats 400000 in
theorem rchoose_no (a b c d u o i k : Int) (h : rightB a b c d u o = false) (w : World) :
    Calls Tryd.prog 16 #[.agg #[.int .i64 a, .int .i64 b, .int .i64 c, .int .i64 d, .int .i64 u, .int .i64 o], .int .i64 i, .int .i64 k] w (Ret (.tuple #[.agg #[.int .i64 0, .int .i64 0, .int .i64 0, .int .i64 0, .int .i64 0, .int .i64 0], .int .i64 250]) w) := by
  go_enter Tryd.func16, Tryd.ntmps16
  go_wp2_with (go_at_call 25; refine (right_any _ _ _ _ _ _ _).mono ?_; rintro e w' ⟨rfl, h1, d1, rfl⟩)
  go_returns
  exact ⟨rfl, (by repeat' (first | (with_reducible exact Grows.refl _) | (with_reducible refine Grows.alloc ?_ _) | (with_reducible refine Grows.drew ?_) | (with_reducible refine Grows.ext ?_ _ _)))⟩
set_option maxHeartbeats 1600000 in
theorem rchoose_bad (a b c d u o i k : Int) (h : rightB a b c d u o = true) (hb : (k < 0 ∨ 1 < k) ∨ (i < 0 ∨ 3 < i)) (w : World) :
    Calls Tryd.prog 16 #[.agg #[.int .i64 a, .int .i64 b, .int .i64 c, .int .i64 d, .int .i64 u, .int .i64 o], .int .i64 i, .int .i64 k] w (Ret (.tuple #[.agg #[.int .i64 0, .int .i64 0, .int .i64 0, .int .i64 0, .int .i64 0, .int .i64 0], .int .i64 2]) w) := by
  have hb' : decide (i < 0) = true ∨ (decide (i < 0) = false ∧ decide (3 < i) = true) ∨ (decide (i < 0) = false ∧ decide (3 < i) = false ∧ decide (k < 0) = true) ∨ (decide (i < 0) = false ∧ decide (3 < i) = false ∧ decide (k < 0) = false ∧ decide (1 < k) = true) := by simp; omega
  clear hb
  rcases hb' with hb1 | ⟨hb1, hb2⟩ | ⟨hb1, hb2, hb3⟩ | ⟨hb1, hb2, hb3, hb4⟩
  all_goals
    go_enter Tryd.func16, Tryd.ntmps16
    go_wp2_with (go_at_call 25; refine (right_any _ _ _ _ _ _ _).mono ?_; rintro e w' ⟨rfl, h1, d1, rfl⟩)
    go_returns
    exact ⟨rfl, (by repeat' (first | (with_reducible exact Grows.refl _) | (with_reducible refine Grows.alloc ?_ _) | (with_reducible refine Grows.drew ?_) | (with_reducible refine Grows.ext ?_ _ _)))⟩
set_option maxHeartbeats 1600000 in
theorem rchoose_ok (a b c d u o i k : Int) (h : rightB a b c d u o = true) (hk : 0 ≤ k ∧ k ≤ 1) (hb : i = 0 ∨ i = 1 ∨ i = 2 ∨ i = 3) (w : World) :
    Calls Tryd.prog 16 #[.agg #[.int .i64 a, .int .i64 b, .int .i64 c, .int .i64 d, .int .i64 u, .int .i64 o], .int .i64 i, .int .i64 k] w (Ret (.tuple #[.agg #[.int .i64 (pk i 0 k a), .int .i64 (pk i 1 k b), .int .i64 (pk i 2 k c), .int .i64 (pk i 3 k d), .int .i64 u, .int .i64 o], .int .i64 0]) w) := by
  have hb3 : decide (k < 0) = false := by simp; omega
  have hb4 : decide (1 < k) = false := by simp; omega
  clear hk
  rcases hb with rfl | rfl | rfl | rfl
  all_goals
    go_enter Tryd.func16, Tryd.ntmps16
    go_wp2_with (go_at_call 25; refine (right_any _ _ _ _ _ _ _).mono ?_; rintro e w' ⟨rfl, h1, d1, rfl⟩)
    go_returns
    exact ⟨rfl, (by repeat' (first | (with_reducible exact Grows.refl _) | (with_reducible refine Grows.alloc ?_ _) | (with_reducible refine Grows.drew ?_) | (with_reducible refine Grows.ext ?_ _ _)))⟩
end Go.Proofs.YtegpdjiacehkfaaDoor
