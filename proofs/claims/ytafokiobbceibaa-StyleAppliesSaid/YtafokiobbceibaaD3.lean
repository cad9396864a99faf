/-
  Walk: CheckPen of the reference, N = 3.
-/
import Derived.Test.YtafokiobbceibaaRows
import Derived.Test.YtafokiobbceibaaLt
import Derived.Test.YtafokiobbceibaaDefs
import Derived.Test.YtafokiobbceibaaBits
import Derived.Test.YtafokiobbceibaaW1
import Derived.Test.YtafokiobbceibaaW4
import Derived.Test.YtafokiobbceibaaW5
import Derived.Test.YtafokiobbceibaaW18
import Derived.WalkKit
import Derived.WalkSpells
import Derived.WalkLawsBesides
import Derived.Handy
import Derived.Laws.EntriesVeiled
import Derived.Lib.Hide
import Derived.Deep.Light
import Derived.Deep.LoopGhost
import Derived.BigGuardPart
import Derived.BigQuiet
import Derived.Deep.QuietTactic
import Derived.Deep.RegionHeld3
import Derived.Test.YtafokiobbceibaaReg
import Derived.Test.YtafokiobbceibaaReg3
import Derived.Test.YtafokiobbceibaaReg4
namespace Go.Proofs.Ytafokiobbceibaa
open Go.RowKit


set_option maxHeartbeats 8000000 in
theorem rcheckPen_3 (kd m ck cn : Int) (s : ByteArray) (w : World) : Calls Try.prog 15 #[.agg #[.int .i64 kd, .int .i64 3, .int .i64 m, .int .i64 ck, .int .i64 cn, .string s]] w (Ret (.int .i64 (pnErr kd 3 m ck cn s)) w) := by
  cases e3 : decide (0 ≤ m)
  · have e7 : undB m = false := by simp [undB, e3]
    cases e1 : (kd != 39)
    · have e1' : (kd == 39) = true := by simpa using e1
      cases e2 : s.toList.isEmpty
      · have hp := Lib.hid (show pnErr kd 3 m ck cn s = 141 by simp [pnErr, pnB, e2])
        have e2' : (!s.toList.isEmpty) = true := by simp [e2]
        go_enter Try.func15, Try.ntmps15
        go_wp2_with fail
        go_returns
        exact ⟨ret_int hp.out.symm, (by repeat' (first | (with_reducible exact Grows.refl _) | (with_reducible refine Grows.alloc ?_ _) | (with_reducible refine Grows.drew ?_) | (with_reducible refine Grows.ext ?_ _ _)))⟩
      · have hp := Lib.hid (show pnErr kd 3 m ck cn s = 141 by simp [pnErr, pnB, mayB, colB, e1', e2, e7])
        have e2' : (!s.toList.isEmpty) = false := by simp [e2]
        go_enter Try.func15, Try.ntmps15
        go_wp2_with fail
        go_returns
        exact ⟨ret_int hp.out.symm, (by repeat' (first | (with_reducible exact Grows.refl _) | (with_reducible refine Grows.alloc ?_ _) | (with_reducible refine Grows.drew ?_) | (with_reducible refine Grows.ext ?_ _ _)))⟩
    · have e1' : (kd == 39) = false := by simpa using e1
      have hp := Lib.hid (show pnErr kd 3 m ck cn s = 141 by simp [pnErr, pnB, e1'])
      go_enter Try.func15, Try.ntmps15
      go_wp2_with fail
      go_returns
      exact ⟨ret_int hp.out.symm, (by repeat' (first | (with_reducible exact Grows.refl _) | (with_reducible refine Grows.alloc ?_ _) | (with_reducible refine Grows.drew ?_) | (with_reducible refine Grows.ext ?_ _ _)))⟩
  · cases e6 : decide (m ≤ 5)
    · have e7 : undB m = false := by simp [undB, e6]
      cases e1 : (kd != 39)
      · have e1' : (kd == 39) = true := by simpa using e1
        cases e2 : s.toList.isEmpty
        · have hp := Lib.hid (show pnErr kd 3 m ck cn s = 141 by simp [pnErr, pnB, e2])
          have e2' : (!s.toList.isEmpty) = true := by simp [e2]
          go_enter Try.func15, Try.ntmps15
          go_wp2_with fail
          go_returns
          exact ⟨ret_int hp.out.symm, (by repeat' (first | (with_reducible exact Grows.refl _) | (with_reducible refine Grows.alloc ?_ _) | (with_reducible refine Grows.drew ?_) | (with_reducible refine Grows.ext ?_ _ _)))⟩
        · have hp := Lib.hid (show pnErr kd 3 m ck cn s = 141 by simp [pnErr, pnB, mayB, colB, e1', e2, e7])
          have e2' : (!s.toList.isEmpty) = false := by simp [e2]
          go_enter Try.func15, Try.ntmps15
          go_wp2_with fail
          go_returns
          exact ⟨ret_int hp.out.symm, (by repeat' (first | (with_reducible exact Grows.refl _) | (with_reducible refine Grows.alloc ?_ _) | (with_reducible refine Grows.drew ?_) | (with_reducible refine Grows.ext ?_ _ _)))⟩
      · have e1' : (kd == 39) = false := by simpa using e1
        have hp := Lib.hid (show pnErr kd 3 m ck cn s = 141 by simp [pnErr, pnB, e1'])
        go_enter Try.func15, Try.ntmps15
        go_wp2_with fail
        go_returns
        exact ⟨ret_int hp.out.symm, (by repeat' (first | (with_reducible exact Grows.refl _) | (with_reducible refine Grows.alloc ?_ _) | (with_reducible refine Grows.drew ?_) | (with_reducible refine Grows.ext ?_ _ _)))⟩
    · have e7 : undB m = true := by simp [undB, e3, e6]
      rcases (by omega : ¬ ck = 0 ∨ (ck = 0 ∧ ¬ cn = 0) ∨ (ck = 0 ∧ cn = 0)) with e4 | ⟨rfl, e4⟩ | ⟨rfl, rfl⟩
      · have e5 : (ck == 0) = false := by simpa using e4
        cases e1 : (kd != 39)
        · have e1' : (kd == 39) = true := by simpa using e1
          cases e2 : s.toList.isEmpty
          · have hp := Lib.hid (show pnErr kd 3 m ck cn s = 141 by simp [pnErr, pnB, e2])
            have e2' : (!s.toList.isEmpty) = true := by simp [e2]
            go_enter Try.func15, Try.ntmps15
            go_wp2_with fail
            go_returns
            exact ⟨ret_int hp.out.symm, (by repeat' (first | (with_reducible exact Grows.refl _) | (with_reducible refine Grows.alloc ?_ _) | (with_reducible refine Grows.drew ?_) | (with_reducible refine Grows.ext ?_ _ _)))⟩
          · have hp := Lib.hid (show pnErr kd 3 m ck cn s = 141 by simp [pnErr, pnB, mayB, colB, e1', e2, e4])
            have e2' : (!s.toList.isEmpty) = false := by simp [e2]
            go_enter Try.func15, Try.ntmps15
            go_wp2_with fail
            go_returns
            exact ⟨ret_int hp.out.symm, (by repeat' (first | (with_reducible exact Grows.refl _) | (with_reducible refine Grows.alloc ?_ _) | (with_reducible refine Grows.drew ?_) | (with_reducible refine Grows.ext ?_ _ _)))⟩
        · have e1' : (kd == 39) = false := by simpa using e1
          have hp := Lib.hid (show pnErr kd 3 m ck cn s = 141 by simp [pnErr, pnB, e1'])
          go_enter Try.func15, Try.ntmps15
          go_wp2_with fail
          go_returns
          exact ⟨ret_int hp.out.symm, (by repeat' (first | (with_reducible exact Grows.refl _) | (with_reducible refine Grows.alloc ?_ _) | (with_reducible refine Grows.drew ?_) | (with_reducible refine Grows.ext ?_ _ _)))⟩
      · have e5 : (cn == 0) = false := by simpa using e4
        cases e1 : (kd != 39)
        · have e1' : (kd == 39) = true := by simpa using e1
          cases e2 : s.toList.isEmpty
          · have hp := Lib.hid (show pnErr kd 3 m 0 cn s = 141 by simp [pnErr, pnB, e2])
            have e2' : (!s.toList.isEmpty) = true := by simp [e2]
            go_enter Try.func15, Try.ntmps15
            go_wp2_with fail
            go_returns
            exact ⟨ret_int hp.out.symm, (by repeat' (first | (with_reducible exact Grows.refl _) | (with_reducible refine Grows.alloc ?_ _) | (with_reducible refine Grows.drew ?_) | (with_reducible refine Grows.ext ?_ _ _)))⟩
          · have hp := Lib.hid (show pnErr kd 3 m 0 cn s = 141 by simp [pnErr, pnB, mayB, colB, e1', e2, e4])
            have e2' : (!s.toList.isEmpty) = false := by simp [e2]
            go_enter Try.func15, Try.ntmps15
            go_wp2_with fail
            go_returns
            exact ⟨ret_int hp.out.symm, (by repeat' (first | (with_reducible exact Grows.refl _) | (with_reducible refine Grows.alloc ?_ _) | (with_reducible refine Grows.drew ?_) | (with_reducible refine Grows.ext ?_ _ _)))⟩
        · have e1' : (kd == 39) = false := by simpa using e1
          have hp := Lib.hid (show pnErr kd 3 m 0 cn s = 141 by simp [pnErr, pnB, e1'])
          go_enter Try.func15, Try.ntmps15
          go_wp2_with fail
          go_returns
          exact ⟨ret_int hp.out.symm, (by repeat' (first | (with_reducible exact Grows.refl _) | (with_reducible refine Grows.alloc ?_ _) | (with_reducible refine Grows.drew ?_) | (with_reducible refine Grows.ext ?_ _ _)))⟩
      · cases e1 : (kd != 39)
        · have e1' : (kd == 39) = true := by simpa using e1
          cases e2 : s.toList.isEmpty
          · have hp := Lib.hid (show pnErr kd 3 m 0 0 s = 141 by simp [pnErr, pnB, e2])
            have e2' : (!s.toList.isEmpty) = true := by simp [e2]
            go_enter Try.func15, Try.ntmps15
            go_wp2_with fail
            go_returns
            exact ⟨ret_int hp.out.symm, (by repeat' (first | (with_reducible exact Grows.refl _) | (with_reducible refine Grows.alloc ?_ _) | (with_reducible refine Grows.drew ?_) | (with_reducible refine Grows.ext ?_ _ _)))⟩
          · have hp := Lib.hid (show pnErr kd 3 m 0 0 s = 0 by simp [pnErr, pnB, mayB, colB, e1', e2, e7])
            have e2' : (!s.toList.isEmpty) = false := by simp [e2]
            go_enter Try.func15, Try.ntmps15
            go_wp2_with fail
            go_returns
            exact ⟨ret_int hp.out.symm, (by repeat' (first | (with_reducible exact Grows.refl _) | (with_reducible refine Grows.alloc ?_ _) | (with_reducible refine Grows.drew ?_) | (with_reducible refine Grows.ext ?_ _ _)))⟩
        · have e1' : (kd == 39) = false := by simpa using e1
          have hp := Lib.hid (show pnErr kd 3 m 0 0 s = 141 by simp [pnErr, pnB, e1'])
          go_enter Try.func15, Try.ntmps15
          go_wp2_with fail
          go_returns
          exact ⟨ret_int hp.out.symm, (by repeat' (first | (with_reducible exact Grows.refl _) | (with_reducible refine Grows.alloc ?_ _) | (with_reducible refine Grows.drew ?_) | (with_reducible refine Grows.ext ?_ _ _)))⟩
end Go.Proofs.Ytafokiobbceibaa
