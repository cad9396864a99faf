/-
  Walks: turned, at each of the functions that are handed to it.
-/
import Derived.Test.YtegpdjiacehkfaaDoorRows
import Derived.Test.YtegpdjiacehkfaaDoorDefs
import Derived.Test.YtegpdjiacehkfaaDoorW1
import Derived.Test.YtegpdjiacehkfaaDoorW5
import Derived.WalkKit
import Derived.WalkSpells
import Derived.WalkLawsBesides
import Derived.Handy
import Derived.Lib.Hide
import Derived.Deep.Light
import Derived.Deep.LoopGhost
import Derived.BigGuardPart
import Derived.BigQuiet
import Derived.Deep.QuietTactic
namespace Go.Proofs.YtegpdjiacehkfaaDoor
open Go.RowKit


set_option maxHeartbeats 400000 in
theorem say29 (n B : Nat) (x : Value) (i : Int) (w : World) (h1 : w.cell? ⟨n, 4, none⟩ = some x) (h2 : w.frozen? ⟨n, 4, none⟩ = false) (h3 : w.cell? ⟨B, 0, none⟩ = some (.int .i64 i)) :
    Calls Tryd.prog 29 #[.pointer (some ⟨n, 0, none⟩), .pointer (some ⟨B, 0, none⟩)] w (fun e w' => e = .returned (.tuple #[]) ∧ w.setCell ⟨n, 4, none⟩ (.int .i64 i) = w') := by
  go_enter Tryd.func29, Tryd.ntmps29
  go_wp2
  go_returns
  exact ⟨rfl, rfl⟩
set_option maxHeartbeats 400000 in
theorem say30 (n B : Nat) (x : Value) (i : Int) (w : World) (h1 : w.cell? ⟨n, 5, none⟩ = some x) (h2 : w.frozen? ⟨n, 5, none⟩ = false) (h3 : w.cell? ⟨B, 0, none⟩ = some (.int .i64 i)) :
    Calls Tryd.prog 30 #[.pointer (some ⟨n, 0, none⟩), .pointer (some ⟨B, 0, none⟩)] w (fun e w' => e = .returned (.tuple #[]) ∧ w.setCell ⟨n, 5, none⟩ (.int .i64 i) = w') := by
  go_enter Tryd.func30, Tryd.ntmps30
  go_wp2
  go_returns
  exact ⟨rfl, rfl⟩
set_option maxHeartbeats 400000 in
theorem say27 (p : Value) (w : World) : Calls Tryd.prog 27 #[p] w (fun e w' => e = .returned (.tuple #[]) ∧ w = w') := by
  go_enter Tryd.func27, Tryd.ntmps27
  go_wp2
  go_returns
  exact ⟨rfl, rfl⟩
set_option maxHeartbeats 400000 in
theorem turned_no (a b c d u o i l m : Int) (f : Value) (hi : In64 u) (h : rightB a b c d u o = false) (w : World) :
    Calls Tryd.prog 26 #[.agg #[.int .i64 a, .int .i64 b, .int .i64 c, .int .i64 d, .int .i64 u, .int .i64 o], .int .i64 i, .int .i64 l, .int .i64 m, f] w (Ret (.tuple #[.agg #[.int .i64 0, .int .i64 0, .int .i64 0, .int .i64 0, .int .i64 0, .int .i64 0], .int .i64 250]) w) := by
  go_enter Tryd.func26, Tryd.ntmps26
  go_wp2_with (go_at_call 10; refine (check_any _ _ _ _ _ _ hi _).mono ?_; rintro e w' ⟨rfl, h1, d1, rfl⟩)
  go_returns
  exact ⟨rfl, (by repeat' (first | (with_reducible exact Grows.refl _) | (with_reducible refine Grows.alloc ?_ _) | (with_reducible refine Grows.drew ?_) | (with_reducible refine Grows.ext ?_ _ _)))⟩
set_option maxHeartbeats 800000 in
theorem turned_bad (a b c d u o i l m : Int) (f : Value) (hi : In64 u) (h : rightB a b c d u o = true) (hb : i < l ∨ m < i) (w : World) :
    Calls Tryd.prog 26 #[.agg #[.int .i64 a, .int .i64 b, .int .i64 c, .int .i64 d, .int .i64 u, .int .i64 o], .int .i64 i, .int .i64 l, .int .i64 m, f] w (Ret (.tuple #[.agg #[.int .i64 0, .int .i64 0, .int .i64 0, .int .i64 0, .int .i64 0, .int .i64 0], .int .i64 2]) w) := by
  have hb' : decide (i < l) = true ∨ (decide (i < l) = false ∧ decide (m < i) = true) := by simp; omega
  clear hb
  rcases hb' with hb1 | ⟨hb1, hb2⟩
  all_goals
    go_enter Tryd.func26, Tryd.ntmps26
    go_wp2_with (go_at_call 10; refine (check_any _ _ _ _ _ _ hi _).mono ?_; rintro e w' ⟨rfl, h1, d1, rfl⟩)
    go_returns
    exact ⟨rfl, (by repeat' (first | (with_reducible exact Grows.refl _) | (with_reducible refine Grows.alloc ?_ _) | (with_reducible refine Grows.drew ?_) | (with_reducible refine Grows.ext ?_ _ _)))⟩
set_option maxHeartbeats 800000 in
theorem turned_noop (a b c d u o i l m : Int) (hi : In64 u) (h : rightB a b c d u o = true) (hb : l ≤ i ∧ i ≤ m) (w : World) :
    Calls Tryd.prog 26 #[.agg #[.int .i64 a, .int .i64 b, .int .i64 c, .int .i64 d, .int .i64 u, .int .i64 o], .int .i64 i, .int .i64 l, .int .i64 m, .func (.func 27) #[] #[]] w (Ret (.tuple #[.agg #[.int .i64 a, .int .i64 b, .int .i64 c, .int .i64 d, .int .i64 u, .int .i64 o], .int .i64 0]) w) := by
  have hb1 : decide (i < l) = false := by simp; omega
  have hb2 : decide (m < i) = false := by simp; omega
  clear hb
  go_enter Tryd.func26, Tryd.ntmps26
  go_wp2_with (first | (go_at_call 10; refine (check_any _ _ _ _ _ _ hi _).mono ?_; rintro e w' ⟨rfl, h1, d1, rfl⟩) | (go_at_call 27; refine (say27 _ _).mono ?_; rintro e w' ⟨rfl, rfl⟩))
  go_returns
  exact ⟨rfl, (by repeat' (first | (with_reducible exact Grows.refl _) | (with_reducible refine Grows.alloc ?_ _) | (with_reducible refine Grows.drew ?_) | (with_reducible refine Grows.ext ?_ _ _)))⟩
set_option maxHeartbeats 800000 in
theorem turned_lock (a b c d u o i l m : Int) (B : Nat) (hi : In64 u) (h : rightB a b c d u o = true) (hb : l ≤ i ∧ i ≤ m) (w : World) (hB : B < w.heap.size) (hc : w.cell? ⟨B, 0, none⟩ = some (.int .i64 i)) :
    Calls Tryd.prog 26 #[.agg #[.int .i64 a, .int .i64 b, .int .i64 c, .int .i64 d, .int .i64 u, .int .i64 o], .int .i64 i, .int .i64 l, .int .i64 m, .func (.func 29) #[] #[.pointer (some ⟨B, 0, none⟩)]] w (Ret (.tuple #[.agg #[.int .i64 a, .int .i64 b, .int .i64 c, .int .i64 d, .int .i64 i, .int .i64 o], .int .i64 0]) w) := by
  have hb1 : decide (i < l) = false := by simp; omega
  have hb2 : decide (m < i) = false := by simp; omega
  have hB1 : ∀ n, B < w.heap.size + n := fun n => by omega
  have hB2 : ∀ n m, B < w.heap.size + n + m := fun n m => by omega
  clear hb
  go_enter Tryd.func26, Tryd.ntmps26
  go_wp2_with (first | (go_at_call 10; refine (check_any _ _ _ _ _ _ hi _).mono ?_; rintro e w' ⟨rfl, h1, d1, rfl⟩) | (go_at_call 29; refine (say29 _ _ (.int .i64 u) i _ ?_ ?_ ?_).mono ?_; (· simp [go_sem]); (· simp [go_sem]); (· simp [go_sem, hB, hB1, hB2, hc]); rintro e w' ⟨rfl, rfl⟩))
  go_returns
  exact ⟨rfl, (by repeat' (first | (with_reducible exact Grows.refl _) | (with_reducible refine Grows.alloc ?_ _) | (with_reducible refine Grows.drew ?_) | (with_reducible refine Grows.ext ?_ _ _)))⟩
set_option maxHeartbeats 800000 in
theorem turned_single (a b c d u o i l m : Int) (B : Nat) (hi : In64 u) (h : rightB a b c d u o = true) (hb : l ≤ i ∧ i ≤ m) (w : World) (hB : B < w.heap.size) (hc : w.cell? ⟨B, 0, none⟩ = some (.int .i64 i)) :
    Calls Tryd.prog 26 #[.agg #[.int .i64 a, .int .i64 b, .int .i64 c, .int .i64 d, .int .i64 u, .int .i64 o], .int .i64 i, .int .i64 l, .int .i64 m, .func (.func 30) #[] #[.pointer (some ⟨B, 0, none⟩)]] w (Ret (.tuple #[.agg #[.int .i64 a, .int .i64 b, .int .i64 c, .int .i64 d, .int .i64 u, .int .i64 i], .int .i64 0]) w) := by
  have hb1 : decide (i < l) = false := by simp; omega
  have hb2 : decide (m < i) = false := by simp; omega
  have hB1 : ∀ n, B < w.heap.size + n := fun n => by omega
  have hB2 : ∀ n m, B < w.heap.size + n + m := fun n m => by omega
  clear hb
  go_enter Tryd.func26, Tryd.ntmps26
  go_wp2_with (first | (go_at_call 10; refine (check_any _ _ _ _ _ _ hi _).mono ?_; rintro e w' ⟨rfl, h1, d1, rfl⟩) | (go_at_call 30; refine (say30 _ _ (.int .i64 o) i _ ?_ ?_ ?_).mono ?_; (· simp [go_sem]); (· simp [go_sem]); (· simp [go_sem, hB, hB1, hB2, hc]); rintro e w' ⟨rfl, rfl⟩))
  go_returns
  exact ⟨rfl, (by repeat' (first | (with_reducible exact Grows.refl _) | (with_reducible refine Grows.alloc ?_ _) | (with_reducible refine Grows.drew ?_) | (with_reducible refine Grows.ext ?_ _ _)))⟩
end Go.Proofs.YtegpdjiacehkfaaDoor
