/-
  Walk: attribute of the reference. Walk: CheckPen of the reference, N = 0. Walk: CheckPen of the reference, N = 1. Walk: CheckPen of the reference, N = 2. Walk: CheckPen of the reference, N = 3.
-/
import Derived.Test.YtobbphkfdhjmdaaDoorRows
import Derived.Test.YtobbphkfdhjmdaaDoorM1
import Derived.Test.YtobbphkfdhjmdaaDoorM4
import Derived.WalkKit
import Derived.WalkSpells
import Derived.WalkLawsBesides
import Derived.Handy
import Derived.Laws.EntriesVeiled
import Derived.Lib.Hide
import Derived.Deep.Light
import Derived.Deep.LoopGhost
import Derived.BigGuardPart
import Derived.BigQuiet
import Derived.Deep.QuietTactic
import Derived.Deep.RegionHeld3
namespace Go.Proofs.YtobbphkfdhjmdaaDoor
open Go.RowKit

theorem idx77_0 (x0 x1 x2 x3 x4 x5 x6 x7 : Value) (w : World) : (Instr.index 147 (.agg #[x0, x1, x2, x3, x4, x5, x6, x7]) (.int .i64 0)).run Tryd.prog w = .ok x0 w := by kernel_rfl
theorem idx77_1 (x0 x1 x2 x3 x4 x5 x6 x7 : Value) (w : World) : (Instr.index 147 (.agg #[x0, x1, x2, x3, x4, x5, x6, x7]) (.int .i64 1)).run Tryd.prog w = .ok x1 w := by kernel_rfl
theorem idx77_2 (x0 x1 x2 x3 x4 x5 x6 x7 : Value) (w : World) : (Instr.index 147 (.agg #[x0, x1, x2, x3, x4, x5, x6, x7]) (.int .i64 2)).run Tryd.prog w = .ok x2 w := by kernel_rfl
theorem idx77_3 (x0 x1 x2 x3 x4 x5 x6 x7 : Value) (w : World) : (Instr.index 147 (.agg #[x0, x1, x2, x3, x4, x5, x6, x7]) (.int .i64 3)).run Tryd.prog w = .ok x3 w := by kernel_rfl
theorem idx77_4 (x0 x1 x2 x3 x4 x5 x6 x7 : Value) (w : World) : (Instr.index 147 (.agg #[x0, x1, x2, x3, x4, x5, x6, x7]) (.int .i64 4)).run Tryd.prog w = .ok x4 w := by kernel_rfl
theorem idx77_5 (x0 x1 x2 x3 x4 x5 x6 x7 : Value) (w : World) : (Instr.index 147 (.agg #[x0, x1, x2, x3, x4, x5, x6, x7]) (.int .i64 5)).run Tryd.prog w = .ok x5 w := by kernel_rfl
theorem idx77_6 (x0 x1 x2 x3 x4 x5 x6 x7 : Value) (w : World) : (Instr.index 147 (.agg #[x0, x1, x2, x3, x4, x5, x6, x7]) (.int .i64 6)).run Tryd.prog w = .ok x6 w := by kernel_rfl
theorem idx77_7 (x0 x1 x2 x3 x4 x5 x6 x7 : Value) (w : World) : (Instr.index 147 (.agg #[x0, x1, x2, x3, x4, x5, x6, x7]) (.int .i64 7)).run Tryd.prog w = .ok x7 w := by kernel_rfl
theorem attr_1 (w : World) : Calls Tryd.prog 73 #[.int .i64 1] w (Ret (.bool (oneB 1)) w) := by
  rw [show oneB 1 = true by decide]
  go_enter Tryd.func73, Tryd.ntmps73
  go_wp2_with fail
  have ix0 := idx77_0
  have ix1 := idx77_1
  have ix2 := idx77_2
  have ix3 := idx77_3
  have ix4 := idx77_4
  have ix5 := idx77_5
  have ix6 := idx77_6
  have ix7 := idx77_7
  refine wp_loop_rounds 9 ?_
  repeat (rw [rounds_succ]; go_wp2_with fail)
  go_returns
  exact ⟨rfl, (by repeat' (first | (with_reducible exact Grows.refl _) | (with_reducible refine Grows.alloc ?_ _) | (with_reducible refine Grows.drew ?_) | (with_reducible refine Grows.ext ?_ _ _)))⟩
theorem attr_2 (w : World) : Calls Tryd.prog 73 #[.int .i64 2] w (Ret (.bool (oneB 2)) w) := by
  rw [show oneB 2 = true by decide]
  go_enter Tryd.func73, Tryd.ntmps73
  go_wp2_with fail
  have ix0 := idx77_0
  have ix1 := idx77_1
  have ix2 := idx77_2
  have ix3 := idx77_3
  have ix4 := idx77_4
  have ix5 := idx77_5
  have ix6 := idx77_6
  have ix7 := idx77_7
  refine wp_loop_rounds 9 ?_
  repeat (rw [rounds_succ]; go_wp2_with fail)
  go_returns
  exact ⟨rfl, (by repeat' (first | (with_reducible exact Grows.refl _) | (with_reducible refine Grows.alloc ?_ _) | (with_reducible refine Grows.drew ?_) | (with_reducible refine Grows.ext ?_ _ _)))⟩
theorem attr_4 (w : World) : Calls Tryd.prog 73 #[.int .i64 4] w (Ret (.bool (oneB 4)) w) := by
  rw [show oneB 4 = true by decide]
  go_enter Tryd.func73, Tryd.ntmps73
  go_wp2_with fail
  have ix0 := idx77_0
  have ix1 := idx77_1
  have ix2 := idx77_2
  have ix3 := idx77_3
  have ix4 := idx77_4
  have ix5 := idx77_5
  have ix6 := idx77_6
  have ix7 := idx77_7
  refine wp_loop_rounds 9 ?_
  repeat (rw [rounds_succ]; go_wp2_with fail)
  go_returns
  exact ⟨rfl, (by repeat' (first | (with_reducible exact Grows.refl _) | (with_reducible refine Grows.alloc ?_ _) | (with_reducible refine Grows.drew ?_) | (with_reducible refine Grows.ext ?_ _ _)))⟩
theorem attr_8 (w : World) : Calls Tryd.prog 73 #[.int .i64 8] w (Ret (.bool (oneB 8)) w) := by
  rw [show oneB 8 = true by decide]
  go_enter Tryd.func73, Tryd.ntmps73
  go_wp2_with fail
  have ix0 := idx77_0
  have ix1 := idx77_1
  have ix2 := idx77_2
  have ix3 := idx77_3
  have ix4 := idx77_4
  have ix5 := idx77_5
  have ix6 := idx77_6
  have ix7 := idx77_7
  refine wp_loop_rounds 9 ?_
  repeat (rw [rounds_succ]; go_wp2_with fail)
  go_returns
  exact ⟨rfl, (by repeat' (first | (with_reducible exact Grows.refl _) | (with_reducible refine Grows.alloc ?_ _) | (with_reducible refine Grows.drew ?_) | (with_reducible refine Grows.ext ?_ _ _)))⟩
theorem attr_16 (w : World) : Calls Tryd.prog 73 #[.int .i64 16] w (Ret (.bool (oneB 16)) w) := by
  rw [show oneB 16 = true by decide]
  go_enter Tryd.func73, Tryd.ntmps73
  go_wp2_with fail
  have ix0 := idx77_0
  have ix1 := idx77_1
  have ix2 := idx77_2
  have ix3 := idx77_3
  have ix4 := idx77_4
  have ix5 := idx77_5
  have ix6 := idx77_6
  have ix7 := idx77_7
  refine wp_loop_rounds 9 ?_
  repeat (rw [rounds_succ]; go_wp2_with fail)
  go_returns
  exact ⟨rfl, (by repeat' (first | (with_reducible exact Grows.refl _) | (with_reducible refine Grows.alloc ?_ _) | (with_reducible refine Grows.drew ?_) | (with_reducible refine Grows.ext ?_ _ _)))⟩
theorem attr_32 (w : World) : Calls Tryd.prog 73 #[.int .i64 32] w (Ret (.bool (oneB 32)) w) := by
  rw [show oneB 32 = true by decide]
  go_enter Tryd.func73, Tryd.ntmps73
  go_wp2_with fail
  have ix0 := idx77_0
  have ix1 := idx77_1
  have ix2 := idx77_2
  have ix3 := idx77_3
  have ix4 := idx77_4
  have ix5 := idx77_5
  have ix6 := idx77_6
  have ix7 := idx77_7
  refine wp_loop_rounds 9 ?_
  repeat (rw [rounds_succ]; go_wp2_with fail)
  go_returns
  exact ⟨rfl, (by repeat' (first | (with_reducible exact Grows.refl _) | (with_reducible refine Grows.alloc ?_ _) | (with_reducible refine Grows.drew ?_) | (with_reducible refine Grows.ext ?_ _ _)))⟩
theorem attr_64 (w : World) : Calls Tryd.prog 73 #[.int .i64 64] w (Ret (.bool (oneB 64)) w) := by
  rw [show oneB 64 = true by decide]
  go_enter Tryd.func73, Tryd.ntmps73
  go_wp2_with fail
  have ix0 := idx77_0
  have ix1 := idx77_1
  have ix2 := idx77_2
  have ix3 := idx77_3
  have ix4 := idx77_4
  have ix5 := idx77_5
  have ix6 := idx77_6
  have ix7 := idx77_7
  refine wp_loop_rounds 9 ?_
  repeat (rw [rounds_succ]; go_wp2_with fail)
  go_returns
  exact ⟨rfl, (by repeat' (first | (with_reducible exact Grows.refl _) | (with_reducible refine Grows.alloc ?_ _) | (with_reducible refine Grows.drew ?_) | (with_reducible refine Grows.ext ?_ _ _)))⟩
theorem attr_128 (w : World) : Calls Tryd.prog 73 #[.int .i64 128] w (Ret (.bool (oneB 128)) w) := by
  rw [show oneB 128 = true by decide]
  go_enter Tryd.func73, Tryd.ntmps73
  go_wp2_with fail
  have ix0 := idx77_0
  have ix1 := idx77_1
  have ix2 := idx77_2
  have ix3 := idx77_3
  have ix4 := idx77_4
  have ix5 := idx77_5
  have ix6 := idx77_6
  have ix7 := idx77_7
  refine wp_loop_rounds 9 ?_
  repeat (rw [rounds_succ]; go_wp2_with fail)
  go_returns
  exact ⟨rfl, (by repeat' (first | (with_reducible exact Grows.refl _) | (with_reducible refine Grows.alloc ?_ _) | (with_reducible refine Grows.drew ?_) | (with_reducible refine Grows.ext ?_ _ _)))⟩
theorem attr_no (m : Int) (h : ¬ (m = 1 ∨ m = 2 ∨ m = 4 ∨ m = 8 ∨ m = 16 ∨ m = 32 ∨ m = 64 ∨ m = 128)) (w : World) : Calls Tryd.prog 73 #[.int .i64 m] w (Ret (.bool (oneB m)) w) := by
  have n1 : (m == 1) = false := by simp; omega
  have n2 : (m == 2) = false := by simp; omega
  have n4 : (m == 4) = false := by simp; omega
  have n8 : (m == 8) = false := by simp; omega
  have n16 : (m == 16) = false := by simp; omega
  have n32 : (m == 32) = false := by simp; omega
  have n64 : (m == 64) = false := by simp; omega
  have n128 : (m == 128) = false := by simp; omega
  rw [show oneB m = false by simp [oneB, n1, n2, n4, n8, n16, n32, n64, n128]]
  clear h
  go_enter Tryd.func73, Tryd.ntmps73
  go_wp2_with fail
  have ix0 := idx77_0
  have ix1 := idx77_1
  have ix2 := idx77_2
  have ix3 := idx77_3
  have ix4 := idx77_4
  have ix5 := idx77_5
  have ix6 := idx77_6
  have ix7 := idx77_7
  refine wp_loop_rounds 9 ?_
  repeat (rw [rounds_succ]; go_wp2_with fail)
  go_returns
  exact ⟨rfl, (by repeat' (first | (with_reducible exact Grows.refl _) | (with_reducible refine Grows.alloc ?_ _) | (with_reducible refine Grows.drew ?_) | (with_reducible refine Grows.ext ?_ _ _)))⟩
theorem attr_any (m : Int) (w : World) : Calls Tryd.prog 73 #[.int .i64 m] w (Ret (.bool (oneB m)) w) := by
  by_cases h : m = 1 ∨ m = 2 ∨ m = 4 ∨ m = 8 ∨ m = 16 ∨ m = 32 ∨ m = 64 ∨ m = 128
  · rcases h with rfl | rfl | rfl | rfl | rfl | rfl | rfl | rfl
    · exact attr_1 w
    · exact attr_2 w
    · exact attr_4 w
    · exact attr_8 w
    · exact attr_16 w
    · exact attr_32 w
    · exact attr_64 w
    · exact attr_128 w
  · exact attr_no m h w
end Go.Proofs.YtobbphkfdhjmdaaDoor

namespace Go.Proofs.YtobbphkfdhjmdaaDoor
open Go.RowKit


set_option maxHeartbeats 8000000 in
theorem rcheckPen_0 (kd m ck cn : Int) (s : ByteArray) (w : World) : Calls Tryd.prog 38 #[.agg #[.int .i64 kd, .int .i64 0, .int .i64 m, .int .i64 ck, .int .i64 cn, .string s]] w (Ret (.int .i64 (pnErr kd 0 m ck cn s)) w) := by
  cases e3 : (m == 0)
  · cases e1 : (kd != 39)
    · have e1' : (kd == 39) = true := by simpa using e1
      cases e2 : s.toList.isEmpty
      · have hp := Lib.hid (show pnErr kd 0 m ck cn s = 141 by simp [pnErr, pnB, e2])
        have e2' : (!s.toList.isEmpty) = true := by simp [e2]
        go_enter Tryd.func38, Tryd.ntmps38
        go_wp2_with fail
        go_returns
        exact ⟨ret_int hp.out.symm, (by repeat' (first | (with_reducible exact Grows.refl _) | (with_reducible refine Grows.alloc ?_ _) | (with_reducible refine Grows.drew ?_) | (with_reducible refine Grows.ext ?_ _ _)))⟩
      · have hp := Lib.hid (show pnErr kd 0 m ck cn s = 141 by simp [pnErr, pnB, mayB, colB, e1', e2, e3])
        have e2' : (!s.toList.isEmpty) = false := by simp [e2]
        go_enter Tryd.func38, Tryd.ntmps38
        go_wp2_with fail
        go_returns
        exact ⟨ret_int hp.out.symm, (by repeat' (first | (with_reducible exact Grows.refl _) | (with_reducible refine Grows.alloc ?_ _) | (with_reducible refine Grows.drew ?_) | (with_reducible refine Grows.ext ?_ _ _)))⟩
    · have e1' : (kd == 39) = false := by simpa using e1
      have hp := Lib.hid (show pnErr kd 0 m ck cn s = 141 by simp [pnErr, pnB, e1'])
      go_enter Tryd.func38, Tryd.ntmps38
      go_wp2_with fail
      go_returns
      exact ⟨ret_int hp.out.symm, (by repeat' (first | (with_reducible exact Grows.refl _) | (with_reducible refine Grows.alloc ?_ _) | (with_reducible refine Grows.drew ?_) | (with_reducible refine Grows.ext ?_ _ _)))⟩
  · rcases (by omega : ¬ ck = 0 ∨ (ck = 0 ∧ ¬ cn = 0) ∨ (ck = 0 ∧ cn = 0)) with e4 | ⟨rfl, e4⟩ | ⟨rfl, rfl⟩
    · have e5 : (ck == 0) = false := by simpa using e4
      cases e1 : (kd != 39)
      · have e1' : (kd == 39) = true := by simpa using e1
        cases e2 : s.toList.isEmpty
        · have hp := Lib.hid (show pnErr kd 0 m ck cn s = 141 by simp [pnErr, pnB, e2])
          have e2' : (!s.toList.isEmpty) = true := by simp [e2]
          go_enter Tryd.func38, Tryd.ntmps38
          go_wp2_with fail
          go_returns
          exact ⟨ret_int hp.out.symm, (by repeat' (first | (with_reducible exact Grows.refl _) | (with_reducible refine Grows.alloc ?_ _) | (with_reducible refine Grows.drew ?_) | (with_reducible refine Grows.ext ?_ _ _)))⟩
        · have hp := Lib.hid (show pnErr kd 0 m ck cn s = 141 by simp [pnErr, pnB, mayB, colB, e1', e2, e4])
          have e2' : (!s.toList.isEmpty) = false := by simp [e2]
          go_enter Tryd.func38, Tryd.ntmps38
          go_wp2_with fail
          go_returns
          exact ⟨ret_int hp.out.symm, (by repeat' (first | (with_reducible exact Grows.refl _) | (with_reducible refine Grows.alloc ?_ _) | (with_reducible refine Grows.drew ?_) | (with_reducible refine Grows.ext ?_ _ _)))⟩
      · have e1' : (kd == 39) = false := by simpa using e1
        have hp := Lib.hid (show pnErr kd 0 m ck cn s = 141 by simp [pnErr, pnB, e1'])
        go_enter Tryd.func38, Tryd.ntmps38
        go_wp2_with fail
        go_returns
        exact ⟨ret_int hp.out.symm, (by repeat' (first | (with_reducible exact Grows.refl _) | (with_reducible refine Grows.alloc ?_ _) | (with_reducible refine Grows.drew ?_) | (with_reducible refine Grows.ext ?_ _ _)))⟩
    · have e5 : (cn == 0) = false := by simpa using e4
      cases e1 : (kd != 39)
      · have e1' : (kd == 39) = true := by simpa using e1
        cases e2 : s.toList.isEmpty
        · have hp := Lib.hid (show pnErr kd 0 m 0 cn s = 141 by simp [pnErr, pnB, e2])
          have e2' : (!s.toList.isEmpty) = true := by simp [e2]
          go_enter Tryd.func38, Tryd.ntmps38
          go_wp2_with fail
          go_returns
          exact ⟨ret_int hp.out.symm, (by repeat' (first | (with_reducible exact Grows.refl _) | (with_reducible refine Grows.alloc ?_ _) | (with_reducible refine Grows.drew ?_) | (with_reducible refine Grows.ext ?_ _ _)))⟩
        · have hp := Lib.hid (show pnErr kd 0 m 0 cn s = 141 by simp [pnErr, pnB, mayB, colB, e1', e2, e4])
          have e2' : (!s.toList.isEmpty) = false := by simp [e2]
          go_enter Tryd.func38, Tryd.ntmps38
          go_wp2_with fail
          go_returns
          exact ⟨ret_int hp.out.symm, (by repeat' (first | (with_reducible exact Grows.refl _) | (with_reducible refine Grows.alloc ?_ _) | (with_reducible refine Grows.drew ?_) | (with_reducible refine Grows.ext ?_ _ _)))⟩
      · have e1' : (kd == 39) = false := by simpa using e1
        have hp := Lib.hid (show pnErr kd 0 m 0 cn s = 141 by simp [pnErr, pnB, e1'])
        go_enter Tryd.func38, Tryd.ntmps38
        go_wp2_with fail
        go_returns
        exact ⟨ret_int hp.out.symm, (by repeat' (first | (with_reducible exact Grows.refl _) | (with_reducible refine Grows.alloc ?_ _) | (with_reducible refine Grows.drew ?_) | (with_reducible refine Grows.ext ?_ _ _)))⟩
    · cases e1 : (kd != 39)
      · have e1' : (kd == 39) = true := by simpa using e1
        cases e2 : s.toList.isEmpty
        · have hp := Lib.hid (show pnErr kd 0 m 0 0 s = 141 by simp [pnErr, pnB, e2])
          have e2' : (!s.toList.isEmpty) = true := by simp [e2]
          go_enter Tryd.func38, Tryd.ntmps38
          go_wp2_with fail
          go_returns
          exact ⟨ret_int hp.out.symm, (by repeat' (first | (with_reducible exact Grows.refl _) | (with_reducible refine Grows.alloc ?_ _) | (with_reducible refine Grows.drew ?_) | (with_reducible refine Grows.ext ?_ _ _)))⟩
        · have hp := Lib.hid (show pnErr kd 0 m 0 0 s = 0 by simp [pnErr, pnB, mayB, colB, e1', e2, e3])
          have e2' : (!s.toList.isEmpty) = false := by simp [e2]
          go_enter Tryd.func38, Tryd.ntmps38
          go_wp2_with fail
          go_returns
          exact ⟨ret_int hp.out.symm, (by repeat' (first | (with_reducible exact Grows.refl _) | (with_reducible refine Grows.alloc ?_ _) | (with_reducible refine Grows.drew ?_) | (with_reducible refine Grows.ext ?_ _ _)))⟩
      · have e1' : (kd == 39) = false := by simpa using e1
        have hp := Lib.hid (show pnErr kd 0 m 0 0 s = 141 by simp [pnErr, pnB, e1'])
        go_enter Tryd.func38, Tryd.ntmps38
        go_wp2_with fail
        go_returns
        exact ⟨ret_int hp.out.symm, (by repeat' (first | (with_reducible exact Grows.refl _) | (with_reducible refine Grows.alloc ?_ _) | (with_reducible refine Grows.drew ?_) | (with_reducible refine Grows.ext ?_ _ _)))⟩
end Go.Proofs.YtobbphkfdhjmdaaDoor

namespace Go.Proofs.YtobbphkfdhjmdaaDoor
open Go.RowKit


set_option maxHeartbeats 8000000 in
theorem rcheckPen_1 (kd m ck cn : Int) (s : ByteArray) (w : World) : Calls Tryd.prog 38 #[.agg #[.int .i64 kd, .int .i64 1, .int .i64 m, .int .i64 ck, .int .i64 cn, .string s]] w (Ret (.int .i64 (pnErr kd 1 m ck cn s)) w) := by
  have hy := fun W => attr_any m W
  cases e3 : oneB m
  · rw [e3] at hy
    have Hy := Lib.hid hy
    clear hy
    cases e1 : (kd != 39)
    · have e1' : (kd == 39) = true := by simpa using e1
      cases e2 : s.toList.isEmpty
      · have hp := Lib.hid (show pnErr kd 1 m ck cn s = 141 by simp [pnErr, pnB, e2])
        have e2' : (!s.toList.isEmpty) = true := by simp [e2]
        go_enter Tryd.func38, Tryd.ntmps38
        go_wp2_with (go_at_call 73; (with_reducible refine (Hy.out _).mono ?_); rintro e w' ⟨rfl, h5, d5, rfl⟩)
        go_returns
        exact ⟨ret_int hp.out.symm, (by repeat' (first | (with_reducible exact Grows.refl _) | (with_reducible refine Grows.alloc ?_ _) | (with_reducible refine Grows.drew ?_) | (with_reducible refine Grows.ext ?_ _ _)))⟩
      · have hp := Lib.hid (show pnErr kd 1 m ck cn s = 141 by simp [pnErr, pnB, mayB, colB, e1', e2, e3])
        have e2' : (!s.toList.isEmpty) = false := by simp [e2]
        go_enter Tryd.func38, Tryd.ntmps38
        go_wp2_with (go_at_call 73; (with_reducible refine (Hy.out _).mono ?_); rintro e w' ⟨rfl, h5, d5, rfl⟩)
        go_returns
        exact ⟨ret_int hp.out.symm, (by repeat' (first | (with_reducible exact Grows.refl _) | (with_reducible refine Grows.alloc ?_ _) | (with_reducible refine Grows.drew ?_) | (with_reducible refine Grows.ext ?_ _ _)))⟩
    · have e1' : (kd == 39) = false := by simpa using e1
      have hp := Lib.hid (show pnErr kd 1 m ck cn s = 141 by simp [pnErr, pnB, e1'])
      go_enter Tryd.func38, Tryd.ntmps38
      go_wp2_with (go_at_call 73; (with_reducible refine (Hy.out _).mono ?_); rintro e w' ⟨rfl, h5, d5, rfl⟩)
      go_returns
      exact ⟨ret_int hp.out.symm, (by repeat' (first | (with_reducible exact Grows.refl _) | (with_reducible refine Grows.alloc ?_ _) | (with_reducible refine Grows.drew ?_) | (with_reducible refine Grows.ext ?_ _ _)))⟩
  · rw [e3] at hy
    have Hy := Lib.hid hy
    clear hy
    rcases (by omega : ¬ ck = 0 ∨ (ck = 0 ∧ ¬ cn = 0) ∨ (ck = 0 ∧ cn = 0)) with e4 | ⟨rfl, e4⟩ | ⟨rfl, rfl⟩
    · have e5 : (ck == 0) = false := by simpa using e4
      cases e1 : (kd != 39)
      · have e1' : (kd == 39) = true := by simpa using e1
        cases e2 : s.toList.isEmpty
        · have hp := Lib.hid (show pnErr kd 1 m ck cn s = 141 by simp [pnErr, pnB, e2])
          have e2' : (!s.toList.isEmpty) = true := by simp [e2]
          go_enter Tryd.func38, Tryd.ntmps38
          go_wp2_with (go_at_call 73; (with_reducible refine (Hy.out _).mono ?_); rintro e w' ⟨rfl, h5, d5, rfl⟩)
          go_returns
          exact ⟨ret_int hp.out.symm, (by repeat' (first | (with_reducible exact Grows.refl _) | (with_reducible refine Grows.alloc ?_ _) | (with_reducible refine Grows.drew ?_) | (with_reducible refine Grows.ext ?_ _ _)))⟩
        · have hp := Lib.hid (show pnErr kd 1 m ck cn s = 141 by simp [pnErr, pnB, mayB, colB, e1', e2, e4])
          have e2' : (!s.toList.isEmpty) = false := by simp [e2]
          go_enter Tryd.func38, Tryd.ntmps38
          go_wp2_with (go_at_call 73; (with_reducible refine (Hy.out _).mono ?_); rintro e w' ⟨rfl, h5, d5, rfl⟩)
          go_returns
          exact ⟨ret_int hp.out.symm, (by repeat' (first | (with_reducible exact Grows.refl _) | (with_reducible refine Grows.alloc ?_ _) | (with_reducible refine Grows.drew ?_) | (with_reducible refine Grows.ext ?_ _ _)))⟩
      · have e1' : (kd == 39) = false := by simpa using e1
        have hp := Lib.hid (show pnErr kd 1 m ck cn s = 141 by simp [pnErr, pnB, e1'])
        go_enter Tryd.func38, Tryd.ntmps38
        go_wp2_with (go_at_call 73; (with_reducible refine (Hy.out _).mono ?_); rintro e w' ⟨rfl, h5, d5, rfl⟩)
        go_returns
        exact ⟨ret_int hp.out.symm, (by repeat' (first | (with_reducible exact Grows.refl _) | (with_reducible refine Grows.alloc ?_ _) | (with_reducible refine Grows.drew ?_) | (with_reducible refine Grows.ext ?_ _ _)))⟩
    · have e5 : (cn == 0) = false := by simpa using e4
      cases e1 : (kd != 39)
      · have e1' : (kd == 39) = true := by simpa using e1
        cases e2 : s.toList.isEmpty
        · have hp := Lib.hid (show pnErr kd 1 m 0 cn s = 141 by simp [pnErr, pnB, e2])
          have e2' : (!s.toList.isEmpty) = true := by simp [e2]
          go_enter Tryd.func38, Tryd.ntmps38
          go_wp2_with (go_at_call 73; (with_reducible refine (Hy.out _).mono ?_); rintro e w' ⟨rfl, h5, d5, rfl⟩)
          go_returns
          exact ⟨ret_int hp.out.symm, (by repeat' (first | (with_reducible exact Grows.refl _) | (with_reducible refine Grows.alloc ?_ _) | (with_reducible refine Grows.drew ?_) | (with_reducible refine Grows.ext ?_ _ _)))⟩
        · have hp := Lib.hid (show pnErr kd 1 m 0 cn s = 141 by simp [pnErr, pnB, mayB, colB, e1', e2, e4])
          have e2' : (!s.toList.isEmpty) = false := by simp [e2]
          go_enter Tryd.func38, Tryd.ntmps38
          go_wp2_with (go_at_call 73; (with_reducible refine (Hy.out _).mono ?_); rintro e w' ⟨rfl, h5, d5, rfl⟩)
          go_returns
          exact ⟨ret_int hp.out.symm, (by repeat' (first | (with_reducible exact Grows.refl _) | (with_reducible refine Grows.alloc ?_ _) | (with_reducible refine Grows.drew ?_) | (with_reducible refine Grows.ext ?_ _ _)))⟩
      · have e1' : (kd == 39) = false := by simpa using e1
        have hp := Lib.hid (show pnErr kd 1 m 0 cn s = 141 by simp [pnErr, pnB, e1'])
        go_enter Tryd.func38, Tryd.ntmps38
        go_wp2_with (go_at_call 73; (with_reducible refine (Hy.out _).mono ?_); rintro e w' ⟨rfl, h5, d5, rfl⟩)
        go_returns
        exact ⟨ret_int hp.out.symm, (by repeat' (first | (with_reducible exact Grows.refl _) | (with_reducible refine Grows.alloc ?_ _) | (with_reducible refine Grows.drew ?_) | (with_reducible refine Grows.ext ?_ _ _)))⟩
    · cases e1 : (kd != 39)
      · have e1' : (kd == 39) = true := by simpa using e1
        cases e2 : s.toList.isEmpty
        · have hp := Lib.hid (show pnErr kd 1 m 0 0 s = 141 by simp [pnErr, pnB, e2])
          have e2' : (!s.toList.isEmpty) = true := by simp [e2]
          go_enter Tryd.func38, Tryd.ntmps38
          go_wp2_with (go_at_call 73; (with_reducible refine (Hy.out _).mono ?_); rintro e w' ⟨rfl, h5, d5, rfl⟩)
          go_returns
          exact ⟨ret_int hp.out.symm, (by repeat' (first | (with_reducible exact Grows.refl _) | (with_reducible refine Grows.alloc ?_ _) | (with_reducible refine Grows.drew ?_) | (with_reducible refine Grows.ext ?_ _ _)))⟩
        · have hp := Lib.hid (show pnErr kd 1 m 0 0 s = 0 by simp [pnErr, pnB, mayB, colB, e1', e2, e3])
          have e2' : (!s.toList.isEmpty) = false := by simp [e2]
          go_enter Tryd.func38, Tryd.ntmps38
          go_wp2_with (go_at_call 73; (with_reducible refine (Hy.out _).mono ?_); rintro e w' ⟨rfl, h5, d5, rfl⟩)
          go_returns
          exact ⟨ret_int hp.out.symm, (by repeat' (first | (with_reducible exact Grows.refl _) | (with_reducible refine Grows.alloc ?_ _) | (with_reducible refine Grows.drew ?_) | (with_reducible refine Grows.ext ?_ _ _)))⟩
      · have e1' : (kd == 39) = false := by simpa using e1
        have hp := Lib.hid (show pnErr kd 1 m 0 0 s = 141 by simp [pnErr, pnB, e1'])
        go_enter Tryd.func38, Tryd.ntmps38
        go_wp2_with (go_at_call 73; (with_reducible refine (Hy.out _).mono ?_); rintro e w' ⟨rfl, h5, d5, rfl⟩)
        go_returns
        exact ⟨ret_int hp.out.symm, (by repeat' (first | (with_reducible exact Grows.refl _) | (with_reducible refine Grows.alloc ?_ _) | (with_reducible refine Grows.drew ?_) | (with_reducible refine Grows.ext ?_ _ _)))⟩
end Go.Proofs.YtobbphkfdhjmdaaDoor

namespace Go.Proofs.YtobbphkfdhjmdaaDoor
open Go.RowKit


set_option maxHeartbeats 8000000 in
theorem rcheckPen_2 (kd m ck cn : Int) (s : ByteArray) (w : World) : Calls Tryd.prog 38 #[.agg #[.int .i64 kd, .int .i64 2, .int .i64 m, .int .i64 ck, .int .i64 cn, .string s]] w (Ret (.int .i64 (pnErr kd 2 m ck cn s)) w) := by
  have hy := fun W => attr_any m W
  cases e6 : (m == 3)
  · cases e3 : oneB m
    · rw [e3] at hy
      have Hy := Lib.hid hy
      clear hy
      have e7 : clrB m = false := by simp [clrB, e6, e3]
      cases e1 : (kd != 39)
      · have e1' : (kd == 39) = true := by simpa using e1
        cases e2 : s.toList.isEmpty
        · have hp := Lib.hid (show pnErr kd 2 m ck cn s = 141 by simp [pnErr, pnB, e2])
          have e2' : (!s.toList.isEmpty) = true := by simp [e2]
          go_enter Tryd.func38, Tryd.ntmps38
          go_wp2_with (go_at_call 73; (with_reducible refine (Hy.out _).mono ?_); rintro e w' ⟨rfl, h5, d5, rfl⟩)
          go_returns
          exact ⟨ret_int hp.out.symm, (by repeat' (first | (with_reducible exact Grows.refl _) | (with_reducible refine Grows.alloc ?_ _) | (with_reducible refine Grows.drew ?_) | (with_reducible refine Grows.ext ?_ _ _)))⟩
        · have hp := Lib.hid (show pnErr kd 2 m ck cn s = 141 by simp [pnErr, pnB, mayB, colB, e1', e2, e7])
          have e2' : (!s.toList.isEmpty) = false := by simp [e2]
          go_enter Tryd.func38, Tryd.ntmps38
          go_wp2_with (go_at_call 73; (with_reducible refine (Hy.out _).mono ?_); rintro e w' ⟨rfl, h5, d5, rfl⟩)
          go_returns
          exact ⟨ret_int hp.out.symm, (by repeat' (first | (with_reducible exact Grows.refl _) | (with_reducible refine Grows.alloc ?_ _) | (with_reducible refine Grows.drew ?_) | (with_reducible refine Grows.ext ?_ _ _)))⟩
      · have e1' : (kd == 39) = false := by simpa using e1
        have hp := Lib.hid (show pnErr kd 2 m ck cn s = 141 by simp [pnErr, pnB, e1'])
        go_enter Tryd.func38, Tryd.ntmps38
        go_wp2_with (go_at_call 73; (with_reducible refine (Hy.out _).mono ?_); rintro e w' ⟨rfl, h5, d5, rfl⟩)
        go_returns
        exact ⟨ret_int hp.out.symm, (by repeat' (first | (with_reducible exact Grows.refl _) | (with_reducible refine Grows.alloc ?_ _) | (with_reducible refine Grows.drew ?_) | (with_reducible refine Grows.ext ?_ _ _)))⟩
    · rw [e3] at hy
      have Hy := Lib.hid hy
      clear hy
      cases e8 : (m != 1)
      · have e8' : (m == 1) = true := by simpa using e8
        have e7 : clrB m = false := by simp [clrB, e6, e3, e8']
        cases e1 : (kd != 39)
        · have e1' : (kd == 39) = true := by simpa using e1
          cases e2 : s.toList.isEmpty
          · have hp := Lib.hid (show pnErr kd 2 m ck cn s = 141 by simp [pnErr, pnB, e2])
            have e2' : (!s.toList.isEmpty) = true := by simp [e2]
            go_enter Tryd.func38, Tryd.ntmps38
            go_wp2_with (go_at_call 73; (with_reducible refine (Hy.out _).mono ?_); rintro e w' ⟨rfl, h5, d5, rfl⟩)
            go_returns
            exact ⟨ret_int hp.out.symm, (by repeat' (first | (with_reducible exact Grows.refl _) | (with_reducible refine Grows.alloc ?_ _) | (with_reducible refine Grows.drew ?_) | (with_reducible refine Grows.ext ?_ _ _)))⟩
          · have hp := Lib.hid (show pnErr kd 2 m ck cn s = 141 by simp [pnErr, pnB, mayB, colB, e1', e2, e7])
            have e2' : (!s.toList.isEmpty) = false := by simp [e2]
            go_enter Tryd.func38, Tryd.ntmps38
            go_wp2_with (go_at_call 73; (with_reducible refine (Hy.out _).mono ?_); rintro e w' ⟨rfl, h5, d5, rfl⟩)
            go_returns
            exact ⟨ret_int hp.out.symm, (by repeat' (first | (with_reducible exact Grows.refl _) | (with_reducible refine Grows.alloc ?_ _) | (with_reducible refine Grows.drew ?_) | (with_reducible refine Grows.ext ?_ _ _)))⟩
        · have e1' : (kd == 39) = false := by simpa using e1
          have hp := Lib.hid (show pnErr kd 2 m ck cn s = 141 by simp [pnErr, pnB, e1'])
          go_enter Tryd.func38, Tryd.ntmps38
          go_wp2_with (go_at_call 73; (with_reducible refine (Hy.out _).mono ?_); rintro e w' ⟨rfl, h5, d5, rfl⟩)
          go_returns
          exact ⟨ret_int hp.out.symm, (by repeat' (first | (with_reducible exact Grows.refl _) | (with_reducible refine Grows.alloc ?_ _) | (with_reducible refine Grows.drew ?_) | (with_reducible refine Grows.ext ?_ _ _)))⟩
      · have e8' : (m == 1) = false := by simpa using e8
        cases e9 : (m != 2)
        · have e9' : (m == 2) = true := by simpa using e9
          have e7 : clrB m = false := by simp [clrB, e6, e3, e8', e9']
          cases e1 : (kd != 39)
          · have e1' : (kd == 39) = true := by simpa using e1
            cases e2 : s.toList.isEmpty
            · have hp := Lib.hid (show pnErr kd 2 m ck cn s = 141 by simp [pnErr, pnB, e2])
              have e2' : (!s.toList.isEmpty) = true := by simp [e2]
              go_enter Tryd.func38, Tryd.ntmps38
              go_wp2_with (go_at_call 73; (with_reducible refine (Hy.out _).mono ?_); rintro e w' ⟨rfl, h5, d5, rfl⟩)
              go_returns
              exact ⟨ret_int hp.out.symm, (by repeat' (first | (with_reducible exact Grows.refl _) | (with_reducible refine Grows.alloc ?_ _) | (with_reducible refine Grows.drew ?_) | (with_reducible refine Grows.ext ?_ _ _)))⟩
            · have hp := Lib.hid (show pnErr kd 2 m ck cn s = 141 by simp [pnErr, pnB, mayB, colB, e1', e2, e7])
              have e2' : (!s.toList.isEmpty) = false := by simp [e2]
              go_enter Tryd.func38, Tryd.ntmps38
              go_wp2_with (go_at_call 73; (with_reducible refine (Hy.out _).mono ?_); rintro e w' ⟨rfl, h5, d5, rfl⟩)
              go_returns
              exact ⟨ret_int hp.out.symm, (by repeat' (first | (with_reducible exact Grows.refl _) | (with_reducible refine Grows.alloc ?_ _) | (with_reducible refine Grows.drew ?_) | (with_reducible refine Grows.ext ?_ _ _)))⟩
          · have e1' : (kd == 39) = false := by simpa using e1
            have hp := Lib.hid (show pnErr kd 2 m ck cn s = 141 by simp [pnErr, pnB, e1'])
            go_enter Tryd.func38, Tryd.ntmps38
            go_wp2_with (go_at_call 73; (with_reducible refine (Hy.out _).mono ?_); rintro e w' ⟨rfl, h5, d5, rfl⟩)
            go_returns
            exact ⟨ret_int hp.out.symm, (by repeat' (first | (with_reducible exact Grows.refl _) | (with_reducible refine Grows.alloc ?_ _) | (with_reducible refine Grows.drew ?_) | (with_reducible refine Grows.ext ?_ _ _)))⟩
        · have e9' : (m == 2) = false := by simpa using e9
          have e7 : clrB m = true := by simp [clrB, e6, e3, e8', e9']
          rcases (by omega : ¬ ck = 0 ∨ (ck = 0 ∧ ¬ cn = 0) ∨ (ck = 0 ∧ cn = 0)) with e4 | ⟨rfl, e4⟩ | ⟨rfl, rfl⟩
          · have e5 : (ck == 0) = false := by simpa using e4
            cases e1 : (kd != 39)
            · have e1' : (kd == 39) = true := by simpa using e1
              cases e2 : s.toList.isEmpty
              · have hp := Lib.hid (show pnErr kd 2 m ck cn s = 141 by simp [pnErr, pnB, e2])
                have e2' : (!s.toList.isEmpty) = true := by simp [e2]
                go_enter Tryd.func38, Tryd.ntmps38
                go_wp2_with (go_at_call 73; (with_reducible refine (Hy.out _).mono ?_); rintro e w' ⟨rfl, h5, d5, rfl⟩)
                go_returns
                exact ⟨ret_int hp.out.symm, (by repeat' (first | (with_reducible exact Grows.refl _) | (with_reducible refine Grows.alloc ?_ _) | (with_reducible refine Grows.drew ?_) | (with_reducible refine Grows.ext ?_ _ _)))⟩
              · have hp := Lib.hid (show pnErr kd 2 m ck cn s = 141 by simp [pnErr, pnB, mayB, colB, e1', e2, e4])
                have e2' : (!s.toList.isEmpty) = false := by simp [e2]
                go_enter Tryd.func38, Tryd.ntmps38
                go_wp2_with (go_at_call 73; (with_reducible refine (Hy.out _).mono ?_); rintro e w' ⟨rfl, h5, d5, rfl⟩)
                go_returns
                exact ⟨ret_int hp.out.symm, (by repeat' (first | (with_reducible exact Grows.refl _) | (with_reducible refine Grows.alloc ?_ _) | (with_reducible refine Grows.drew ?_) | (with_reducible refine Grows.ext ?_ _ _)))⟩
            · have e1' : (kd == 39) = false := by simpa using e1
              have hp := Lib.hid (show pnErr kd 2 m ck cn s = 141 by simp [pnErr, pnB, e1'])
              go_enter Tryd.func38, Tryd.ntmps38
              go_wp2_with (go_at_call 73; (with_reducible refine (Hy.out _).mono ?_); rintro e w' ⟨rfl, h5, d5, rfl⟩)
              go_returns
              exact ⟨ret_int hp.out.symm, (by repeat' (first | (with_reducible exact Grows.refl _) | (with_reducible refine Grows.alloc ?_ _) | (with_reducible refine Grows.drew ?_) | (with_reducible refine Grows.ext ?_ _ _)))⟩
          · have e5 : (cn == 0) = false := by simpa using e4
            cases e1 : (kd != 39)
            · have e1' : (kd == 39) = true := by simpa using e1
              cases e2 : s.toList.isEmpty
              · have hp := Lib.hid (show pnErr kd 2 m 0 cn s = 141 by simp [pnErr, pnB, e2])
                have e2' : (!s.toList.isEmpty) = true := by simp [e2]
                go_enter Tryd.func38, Tryd.ntmps38
                go_wp2_with (go_at_call 73; (with_reducible refine (Hy.out _).mono ?_); rintro e w' ⟨rfl, h5, d5, rfl⟩)
                go_returns
                exact ⟨ret_int hp.out.symm, (by repeat' (first | (with_reducible exact Grows.refl _) | (with_reducible refine Grows.alloc ?_ _) | (with_reducible refine Grows.drew ?_) | (with_reducible refine Grows.ext ?_ _ _)))⟩
              · have hp := Lib.hid (show pnErr kd 2 m 0 cn s = 141 by simp [pnErr, pnB, mayB, colB, e1', e2, e4])
                have e2' : (!s.toList.isEmpty) = false := by simp [e2]
                go_enter Tryd.func38, Tryd.ntmps38
                go_wp2_with (go_at_call 73; (with_reducible refine (Hy.out _).mono ?_); rintro e w' ⟨rfl, h5, d5, rfl⟩)
                go_returns
                exact ⟨ret_int hp.out.symm, (by repeat' (first | (with_reducible exact Grows.refl _) | (with_reducible refine Grows.alloc ?_ _) | (with_reducible refine Grows.drew ?_) | (with_reducible refine Grows.ext ?_ _ _)))⟩
            · have e1' : (kd == 39) = false := by simpa using e1
              have hp := Lib.hid (show pnErr kd 2 m 0 cn s = 141 by simp [pnErr, pnB, e1'])
              go_enter Tryd.func38, Tryd.ntmps38
              go_wp2_with (go_at_call 73; (with_reducible refine (Hy.out _).mono ?_); rintro e w' ⟨rfl, h5, d5, rfl⟩)
              go_returns
              exact ⟨ret_int hp.out.symm, (by repeat' (first | (with_reducible exact Grows.refl _) | (with_reducible refine Grows.alloc ?_ _) | (with_reducible refine Grows.drew ?_) | (with_reducible refine Grows.ext ?_ _ _)))⟩
          · cases e1 : (kd != 39)
            · have e1' : (kd == 39) = true := by simpa using e1
              cases e2 : s.toList.isEmpty
              · have hp := Lib.hid (show pnErr kd 2 m 0 0 s = 141 by simp [pnErr, pnB, e2])
                have e2' : (!s.toList.isEmpty) = true := by simp [e2]
                go_enter Tryd.func38, Tryd.ntmps38
                go_wp2_with (go_at_call 73; (with_reducible refine (Hy.out _).mono ?_); rintro e w' ⟨rfl, h5, d5, rfl⟩)
                go_returns
                exact ⟨ret_int hp.out.symm, (by repeat' (first | (with_reducible exact Grows.refl _) | (with_reducible refine Grows.alloc ?_ _) | (with_reducible refine Grows.drew ?_) | (with_reducible refine Grows.ext ?_ _ _)))⟩
              · have hp := Lib.hid (show pnErr kd 2 m 0 0 s = 0 by simp [pnErr, pnB, mayB, colB, e1', e2, e7])
                have e2' : (!s.toList.isEmpty) = false := by simp [e2]
                go_enter Tryd.func38, Tryd.ntmps38
                go_wp2_with (go_at_call 73; (with_reducible refine (Hy.out _).mono ?_); rintro e w' ⟨rfl, h5, d5, rfl⟩)
                go_returns
                exact ⟨ret_int hp.out.symm, (by repeat' (first | (with_reducible exact Grows.refl _) | (with_reducible refine Grows.alloc ?_ _) | (with_reducible refine Grows.drew ?_) | (with_reducible refine Grows.ext ?_ _ _)))⟩
            · have e1' : (kd == 39) = false := by simpa using e1
              have hp := Lib.hid (show pnErr kd 2 m 0 0 s = 141 by simp [pnErr, pnB, e1'])
              go_enter Tryd.func38, Tryd.ntmps38
              go_wp2_with (go_at_call 73; (with_reducible refine (Hy.out _).mono ?_); rintro e w' ⟨rfl, h5, d5, rfl⟩)
              go_returns
              exact ⟨ret_int hp.out.symm, (by repeat' (first | (with_reducible exact Grows.refl _) | (with_reducible refine Grows.alloc ?_ _) | (with_reducible refine Grows.drew ?_) | (with_reducible refine Grows.ext ?_ _ _)))⟩
  · clear hy
    have e7 : clrB m = true := by simp [clrB, e6]
    rcases (by omega : ¬ ck = 0 ∨ (ck = 0 ∧ ¬ cn = 0) ∨ (ck = 0 ∧ cn = 0)) with e4 | ⟨rfl, e4⟩ | ⟨rfl, rfl⟩
    · have e5 : (ck == 0) = false := by simpa using e4
      cases e1 : (kd != 39)
      · have e1' : (kd == 39) = true := by simpa using e1
        cases e2 : s.toList.isEmpty
        · have hp := Lib.hid (show pnErr kd 2 m ck cn s = 141 by simp [pnErr, pnB, e2])
          have e2' : (!s.toList.isEmpty) = true := by simp [e2]
          go_enter Tryd.func38, Tryd.ntmps38
          go_wp2_with fail
          go_returns
          exact ⟨ret_int hp.out.symm, (by repeat' (first | (with_reducible exact Grows.refl _) | (with_reducible refine Grows.alloc ?_ _) | (with_reducible refine Grows.drew ?_) | (with_reducible refine Grows.ext ?_ _ _)))⟩
        · have hp := Lib.hid (show pnErr kd 2 m ck cn s = 141 by simp [pnErr, pnB, mayB, colB, e1', e2, e4])
          have e2' : (!s.toList.isEmpty) = false := by simp [e2]
          go_enter Tryd.func38, Tryd.ntmps38
          go_wp2_with fail
          go_returns
          exact ⟨ret_int hp.out.symm, (by repeat' (first | (with_reducible exact Grows.refl _) | (with_reducible refine Grows.alloc ?_ _) | (with_reducible refine Grows.drew ?_) | (with_reducible refine Grows.ext ?_ _ _)))⟩
      · have e1' : (kd == 39) = false := by simpa using e1
        have hp := Lib.hid (show pnErr kd 2 m ck cn s = 141 by simp [pnErr, pnB, e1'])
        go_enter Tryd.func38, Tryd.ntmps38
        go_wp2_with fail
        go_returns
        exact ⟨ret_int hp.out.symm, (by repeat' (first | (with_reducible exact Grows.refl _) | (with_reducible refine Grows.alloc ?_ _) | (with_reducible refine Grows.drew ?_) | (with_reducible refine Grows.ext ?_ _ _)))⟩
    · have e5 : (cn == 0) = false := by simpa using e4
      cases e1 : (kd != 39)
      · have e1' : (kd == 39) = true := by simpa using e1
        cases e2 : s.toList.isEmpty
        · have hp := Lib.hid (show pnErr kd 2 m 0 cn s = 141 by simp [pnErr, pnB, e2])
          have e2' : (!s.toList.isEmpty) = true := by simp [e2]
          go_enter Tryd.func38, Tryd.ntmps38
          go_wp2_with fail
          go_returns
          exact ⟨ret_int hp.out.symm, (by repeat' (first | (with_reducible exact Grows.refl _) | (with_reducible refine Grows.alloc ?_ _) | (with_reducible refine Grows.drew ?_) | (with_reducible refine Grows.ext ?_ _ _)))⟩
        · have hp := Lib.hid (show pnErr kd 2 m 0 cn s = 141 by simp [pnErr, pnB, mayB, colB, e1', e2, e4])
          have e2' : (!s.toList.isEmpty) = false := by simp [e2]
          go_enter Tryd.func38, Tryd.ntmps38
          go_wp2_with fail
          go_returns
          exact ⟨ret_int hp.out.symm, (by repeat' (first | (with_reducible exact Grows.refl _) | (with_reducible refine Grows.alloc ?_ _) | (with_reducible refine Grows.drew ?_) | (with_reducible refine Grows.ext ?_ _ _)))⟩
      · have e1' : (kd == 39) = false := by simpa using e1
        have hp := Lib.hid (show pnErr kd 2 m 0 cn s = 141 by simp [pnErr, pnB, e1'])
        go_enter Tryd.func38, Tryd.ntmps38
        go_wp2_with fail
        go_returns
        exact ⟨ret_int hp.out.symm, (by repeat' (first | (with_reducible exact Grows.refl _) | (with_reducible refine Grows.alloc ?_ _) | (with_reducible refine Grows.drew ?_) | (with_reducible refine Grows.ext ?_ _ _)))⟩
    · cases e1 : (kd != 39)
      · have e1' : (kd == 39) = true := by simpa using e1
        cases e2 : s.toList.isEmpty
        · have hp := Lib.hid (show pnErr kd 2 m 0 0 s = 141 by simp [pnErr, pnB, e2])
          have e2' : (!s.toList.isEmpty) = true := by simp [e2]
          go_enter Tryd.func38, Tryd.ntmps38
          go_wp2_with fail
          go_returns
          exact ⟨ret_int hp.out.symm, (by repeat' (first | (with_reducible exact Grows.refl _) | (with_reducible refine Grows.alloc ?_ _) | (with_reducible refine Grows.drew ?_) | (with_reducible refine Grows.ext ?_ _ _)))⟩
        · have hp := Lib.hid (show pnErr kd 2 m 0 0 s = 0 by simp [pnErr, pnB, mayB, colB, e1', e2, e7])
          have e2' : (!s.toList.isEmpty) = false := by simp [e2]
          go_enter Tryd.func38, Tryd.ntmps38
          go_wp2_with fail
          go_returns
          exact ⟨ret_int hp.out.symm, (by repeat' (first | (with_reducible exact Grows.refl _) | (with_reducible refine Grows.alloc ?_ _) | (with_reducible refine Grows.drew ?_) | (with_reducible refine Grows.ext ?_ _ _)))⟩
      · have e1' : (kd == 39) = false := by simpa using e1
        have hp := Lib.hid (show pnErr kd 2 m 0 0 s = 141 by simp [pnErr, pnB, e1'])
        go_enter Tryd.func38, Tryd.ntmps38
        go_wp2_with fail
        go_returns
        exact ⟨ret_int hp.out.symm, (by repeat' (first | (with_reducible exact Grows.refl _) | (with_reducible refine Grows.alloc ?_ _) | (with_reducible refine Grows.drew ?_) | (with_reducible refine Grows.ext ?_ _ _)))⟩
end Go.Proofs.YtobbphkfdhjmdaaDoor

namespace Go.Proofs.YtobbphkfdhjmdaaDoor
open Go.RowKit


set_option maxHeartbeats 8000000 in
theorem rcheckPen_3 (kd m ck cn : Int) (s : ByteArray) (w : World) : Calls Tryd.prog 38 #[.agg #[.int .i64 kd, .int .i64 3, .int .i64 m, .int .i64 ck, .int .i64 cn, .string s]] w (Ret (.int .i64 (pnErr kd 3 m ck cn s)) w) := by
  cases e3 : decide (0 ≤ m)
  · have e7 : undB m = false := by simp [undB, e3]
    cases e1 : (kd != 39)
    · have e1' : (kd == 39) = true := by simpa using e1
      cases e2 : s.toList.isEmpty
      · have hp := Lib.hid (show pnErr kd 3 m ck cn s = 141 by simp [pnErr, pnB, e2])
        have e2' : (!s.toList.isEmpty) = true := by simp [e2]
        go_enter Tryd.func38, Tryd.ntmps38
        go_wp2_with fail
        go_returns
        exact ⟨ret_int hp.out.symm, (by repeat' (first | (with_reducible exact Grows.refl _) | (with_reducible refine Grows.alloc ?_ _) | (with_reducible refine Grows.drew ?_) | (with_reducible refine Grows.ext ?_ _ _)))⟩
      · have hp := Lib.hid (show pnErr kd 3 m ck cn s = 141 by simp [pnErr, pnB, mayB, colB, e1', e2, e7])
        have e2' : (!s.toList.isEmpty) = false := by simp [e2]
        go_enter Tryd.func38, Tryd.ntmps38
        go_wp2_with fail
        go_returns
        exact ⟨ret_int hp.out.symm, (by repeat' (first | (with_reducible exact Grows.refl _) | (with_reducible refine Grows.alloc ?_ _) | (with_reducible refine Grows.drew ?_) | (with_reducible refine Grows.ext ?_ _ _)))⟩
    · have e1' : (kd == 39) = false := by simpa using e1
      have hp := Lib.hid (show pnErr kd 3 m ck cn s = 141 by simp [pnErr, pnB, e1'])
      go_enter Tryd.func38, Tryd.ntmps38
      go_wp2_with fail
      go_returns
      exact ⟨ret_int hp.out.symm, (by repeat' (first | (with_reducible exact Grows.refl _) | (with_reducible refine Grows.alloc ?_ _) | (with_reducible refine Grows.drew ?_) | (with_reducible refine Grows.ext ?_ _ _)))⟩
  · cases e6 : decide (m ≤ 5)
    · have e7 : undB m = false := by simp [undB, e6]
      cases e1 : (kd != 39)
      · have e1' : (kd == 39) = true := by simpa using e1
        cases e2 : s.toList.isEmpty
        · have hp := Lib.hid (show pnErr kd 3 m ck cn s = 141 by simp [pnErr, pnB, e2])
          have e2' : (!s.toList.isEmpty) = true := by simp [e2]
          go_enter Tryd.func38, Tryd.ntmps38
          go_wp2_with fail
          go_returns
          exact ⟨ret_int hp.out.symm, (by repeat' (first | (with_reducible exact Grows.refl _) | (with_reducible refine Grows.alloc ?_ _) | (with_reducible refine Grows.drew ?_) | (with_reducible refine Grows.ext ?_ _ _)))⟩
        · have hp := Lib.hid (show pnErr kd 3 m ck cn s = 141 by simp [pnErr, pnB, mayB, colB, e1', e2, e7])
          have e2' : (!s.toList.isEmpty) = false := by simp [e2]
          go_enter Tryd.func38, Tryd.ntmps38
          go_wp2_with fail
          go_returns
          exact ⟨ret_int hp.out.symm, (by repeat' (first | (with_reducible exact Grows.refl _) | (with_reducible refine Grows.alloc ?_ _) | (with_reducible refine Grows.drew ?_) | (with_reducible refine Grows.ext ?_ _ _)))⟩
      · have e1' : (kd == 39) = false := by simpa using e1
        have hp := Lib.hid (show pnErr kd 3 m ck cn s = 141 by simp [pnErr, pnB, e1'])
        go_enter Tryd.func38, Tryd.ntmps38
        go_wp2_with fail
        go_returns
        exact ⟨ret_int hp.out.symm, (by repeat' (first | (with_reducible exact Grows.refl _) | (with_reducible refine Grows.alloc ?_ _) | (with_reducible refine Grows.drew ?_) | (with_reducible refine Grows.ext ?_ _ _)))⟩
    · have e7 : undB m = true := by simp [undB, e3, e6]
      rcases (by omega : ¬ ck = 0 ∨ (ck = 0 ∧ ¬ cn = 0) ∨ (ck = 0 ∧ cn = 0)) with e4 | ⟨rfl, e4⟩ | ⟨rfl, rfl⟩
      · have e5 : (ck == 0) = false := by simpa using e4
        cases e1 : (kd != 39)
        · have e1' : (kd == 39) = true := by simpa using e1
          cases e2 : s.toList.isEmpty
          · have hp := Lib.hid (show pnErr kd 3 m ck cn s = 141 by simp [pnErr, pnB, e2])
            have e2' : (!s.toList.isEmpty) = true := by simp [e2]
            go_enter Tryd.func38, Tryd.ntmps38
            go_wp2_with fail
            go_returns
            exact ⟨ret_int hp.out.symm, (by repeat' (first | (with_reducible exact Grows.refl _) | (with_reducible refine Grows.alloc ?_ _) | (with_reducible refine Grows.drew ?_) | (with_reducible refine Grows.ext ?_ _ _)))⟩
          · have hp := Lib.hid (show pnErr kd 3 m ck cn s = 141 by simp [pnErr, pnB, mayB, colB, e1', e2, e4])
            have e2' : (!s.toList.isEmpty) = false := by simp [e2]
            go_enter Tryd.func38, Tryd.ntmps38
            go_wp2_with fail
            go_returns
            exact ⟨ret_int hp.out.symm, (by repeat' (first | (with_reducible exact Grows.refl _) | (with_reducible refine Grows.alloc ?_ _) | (with_reducible refine Grows.drew ?_) | (with_reducible refine Grows.ext ?_ _ _)))⟩
        · have e1' : (kd == 39) = false := by simpa using e1
          have hp := Lib.hid (show pnErr kd 3 m ck cn s = 141 by simp [pnErr, pnB, e1'])
          go_enter Tryd.func38, Tryd.ntmps38
          go_wp2_with fail
          go_returns
          exact ⟨ret_int hp.out.symm, (by repeat' (first | (with_reducible exact Grows.refl _) | (with_reducible refine Grows.alloc ?_ _) | (with_reducible refine Grows.drew ?_) | (with_reducible refine Grows.ext ?_ _ _)))⟩
      · have e5 : (cn == 0) = false := by simpa using e4
        cases e1 : (kd != 39)
        · have e1' : (kd == 39) = true := by simpa using e1
          cases e2 : s.toList.isEmpty
          · have hp := Lib.hid (show pnErr kd 3 m 0 cn s = 141 by simp [pnErr, pnB, e2])
            have e2' : (!s.toList.isEmpty) = true := by simp [e2]
            go_enter Tryd.func38, Tryd.ntmps38
            go_wp2_with fail
            go_returns
            exact ⟨ret_int hp.out.symm, (by repeat' (first | (with_reducible exact Grows.refl _) | (with_reducible refine Grows.alloc ?_ _) | (with_reducible refine Grows.drew ?_) | (with_reducible refine Grows.ext ?_ _ _)))⟩
          · have hp := Lib.hid (show pnErr kd 3 m 0 cn s = 141 by simp [pnErr, pnB, mayB, colB, e1', e2, e4])
            have e2' : (!s.toList.isEmpty) = false := by simp [e2]
            go_enter Tryd.func38, Tryd.ntmps38
            go_wp2_with fail
            go_returns
            exact ⟨ret_int hp.out.symm, (by repeat' (first | (with_reducible exact Grows.refl _) | (with_reducible refine Grows.alloc ?_ _) | (with_reducible refine Grows.drew ?_) | (with_reducible refine Grows.ext ?_ _ _)))⟩
        · have e1' : (kd == 39) = false := by simpa using e1
          have hp := Lib.hid (show pnErr kd 3 m 0 cn s = 141 by simp [pnErr, pnB, e1'])
          go_enter Tryd.func38, Tryd.ntmps38
          go_wp2_with fail
          go_returns
          exact ⟨ret_int hp.out.symm, (by repeat' (first | (with_reducible exact Grows.refl _) | (with_reducible refine Grows.alloc ?_ _) | (with_reducible refine Grows.drew ?_) | (with_reducible refine Grows.ext ?_ _ _)))⟩
      · cases e1 : (kd != 39)
        · have e1' : (kd == 39) = true := by simpa using e1
          cases e2 : s.toList.isEmpty
          · have hp := Lib.hid (show pnErr kd 3 m 0 0 s = 141 by simp [pnErr, pnB, e2])
            have e2' : (!s.toList.isEmpty) = true := by simp [e2]
            go_enter Tryd.func38, Tryd.ntmps38
            go_wp2_with fail
            go_returns
            exact ⟨ret_int hp.out.symm, (by repeat' (first | (with_reducible exact Grows.refl _) | (with_reducible refine Grows.alloc ?_ _) | (with_reducible refine Grows.drew ?_) | (with_reducible refine Grows.ext ?_ _ _)))⟩
          · have hp := Lib.hid (show pnErr kd 3 m 0 0 s = 0 by simp [pnErr, pnB, mayB, colB, e1', e2, e7])
            have e2' : (!s.toList.isEmpty) = false := by simp [e2]
            go_enter Tryd.func38, Tryd.ntmps38
            go_wp2_with fail
            go_returns
            exact ⟨ret_int hp.out.symm, (by repeat' (first | (with_reducible exact Grows.refl _) | (with_reducible refine Grows.alloc ?_ _) | (with_reducible refine Grows.drew ?_) | (with_reducible refine Grows.ext ?_ _ _)))⟩
        · have e1' : (kd == 39) = false := by simpa using e1
          have hp := Lib.hid (show pnErr kd 3 m 0 0 s = 141 by simp [pnErr, pnB, e1'])
          go_enter Tryd.func38, Tryd.ntmps38
          go_wp2_with fail
          go_returns
          exact ⟨ret_int hp.out.symm, (by repeat' (first | (with_reducible exact Grows.refl _) | (with_reducible refine Grows.alloc ?_ _) | (with_reducible refine Grows.drew ?_) | (with_reducible refine Grows.ext ?_ _ _)))⟩
end Go.Proofs.YtobbphkfdhjmdaaDoor

