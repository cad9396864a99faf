/-
  Walk: CheckPen of the reference, N = 4.
-/
import Derived.Test.YtafokiobbceibaaRows
import Derived.Test.YtafokiobbceibaaLt
import Derived.Test.YtafokiobbceibaaDefs
import Derived.Test.YtafokiobbceibaaBits
import Derived.Test.YtafokiobbceibaaW1
import Derived.Test.YtafokiobbceibaaW4
import Derived.Test.YtafokiobbceibaaW5
import Derived.Test.YtafokiobbceibaaW18
import Derived.WalkKit
import Derived.WalkSpells
import Derived.WalkLawsBesides
import Derived.Handy
import Derived.Laws.EntriesVeiled
import Derived.Lib.Hide
import Derived.Deep.Light
import Derived.Deep.LoopGhost
import Derived.BigGuardPart
import Derived.BigQuiet
import Derived.Deep.QuietTactic
import Derived.Deep.RegionHeld3
import Derived.Test.YtafokiobbceibaaReg
import Derived.Test.YtafokiobbceibaaReg3
import Derived.Test.YtafokiobbceibaaReg4
namespace Go.Proofs.Ytafokiobbceibaa
open Go.RowKit


set_option maxHeartbeats 8000000 in
theorem rcheckPen_4 (kd m ck cn : Int) (s : ByteArray) (w : World) : Calls Try.prog 15 #[.agg #[.int .i64 kd, .int .i64 4, .int .i64 m, .int .i64 ck, .int .i64 cn, .string s]] w (Ret (.int .i64 (pnErr kd 4 m ck cn s)) w) := by
  cases e3 : (m == 0)
  · cases e1 : (kd != 39)
    · have e1' : (kd == 39) = true := by simpa using e1
      cases e2 : s.toList.isEmpty
      · have hp := Lib.hid (show pnErr kd 4 m ck cn s = 141 by simp [pnErr, pnB, e2])
        have e2' : (!s.toList.isEmpty) = true := by simp [e2]
        go_enter Try.func15, Try.ntmps15
        go_wp2_with fail
        go_returns
        exact ⟨ret_int hp.out.symm, (by repeat' (first | (with_reducible exact Grows.refl _) | (with_reducible refine Grows.alloc ?_ _) | (with_reducible refine Grows.drew ?_) | (with_reducible refine Grows.ext ?_ _ _)))⟩
      · have hp := Lib.hid (show pnErr kd 4 m ck cn s = 141 by simp [pnErr, pnB, mayB, colB, e1', e2, e3])
        have e2' : (!s.toList.isEmpty) = false := by simp [e2]
        go_enter Try.func15, Try.ntmps15
        go_wp2_with fail
        go_returns
        exact ⟨ret_int hp.out.symm, (by repeat' (first | (with_reducible exact Grows.refl _) | (with_reducible refine Grows.alloc ?_ _) | (with_reducible refine Grows.drew ?_) | (with_reducible refine Grows.ext ?_ _ _)))⟩
    · have e1' : (kd == 39) = false := by simpa using e1
      have hp := Lib.hid (show pnErr kd 4 m ck cn s = 141 by simp [pnErr, pnB, e1'])
      go_enter Try.func15, Try.ntmps15
      go_wp2_with fail
      go_returns
      exact ⟨ret_int hp.out.symm, (by repeat' (first | (with_reducible exact Grows.refl _) | (with_reducible refine Grows.alloc ?_ _) | (with_reducible refine Grows.drew ?_) | (with_reducible refine Grows.ext ?_ _ _)))⟩
  · have hc := fun W => rcolor_any ck cn W
    cases e4 : clOk ck cn
    · rw [e4, clErr_f] at hc
      have Hc := Lib.hid hc
      clear hc
      cases e1 : (kd != 39)
      · have e1' : (kd == 39) = true := by simpa using e1
        cases e2 : s.toList.isEmpty
        · have hp := Lib.hid (show pnErr kd 4 m ck cn s = 141 by simp [pnErr, pnB, e2])
          have e2' : (!s.toList.isEmpty) = true := by simp [e2]
          go_enter Try.func15, Try.ntmps15
          go_wp2_with (go_at_call 30; (with_reducible refine (Hc.out _).mono ?_); rintro e w' ⟨rfl, h6, d6, rfl⟩)
          go_returns
          exact ⟨ret_int hp.out.symm, (by repeat' (first | (with_reducible exact Grows.refl _) | (with_reducible refine Grows.alloc ?_ _) | (with_reducible refine Grows.drew ?_) | (with_reducible refine Grows.ext ?_ _ _)))⟩
        · have hp := Lib.hid (show pnErr kd 4 m ck cn s = 141 by simp [pnErr, pnB, mayB, colB, e1', e2, e3, e4])
          have e2' : (!s.toList.isEmpty) = false := by simp [e2]
          go_enter Try.func15, Try.ntmps15
          go_wp2_with (go_at_call 30; (with_reducible refine (Hc.out _).mono ?_); rintro e w' ⟨rfl, h6, d6, rfl⟩)
          go_returns
          exact ⟨ret_int hp.out.symm, (by repeat' (first | (with_reducible exact Grows.refl _) | (with_reducible refine Grows.alloc ?_ _) | (with_reducible refine Grows.drew ?_) | (with_reducible refine Grows.ext ?_ _ _)))⟩
      · have e1' : (kd == 39) = false := by simpa using e1
        have hp := Lib.hid (show pnErr kd 4 m ck cn s = 141 by simp [pnErr, pnB, e1'])
        go_enter Try.func15, Try.ntmps15
        go_wp2_with (go_at_call 30; (with_reducible refine (Hc.out _).mono ?_); rintro e w' ⟨rfl, h6, d6, rfl⟩)
        go_returns
        exact ⟨ret_int hp.out.symm, (by repeat' (first | (with_reducible exact Grows.refl _) | (with_reducible refine Grows.alloc ?_ _) | (with_reducible refine Grows.drew ?_) | (with_reducible refine Grows.ext ?_ _ _)))⟩
    · rw [e4, clErr_t] at hc
      have Hc := Lib.hid hc
      clear hc
      cases e1 : (kd != 39)
      · have e1' : (kd == 39) = true := by simpa using e1
        cases e2 : s.toList.isEmpty
        · have hp := Lib.hid (show pnErr kd 4 m ck cn s = 141 by simp [pnErr, pnB, e2])
          have e2' : (!s.toList.isEmpty) = true := by simp [e2]
          go_enter Try.func15, Try.ntmps15
          go_wp2_with (go_at_call 30; (with_reducible refine (Hc.out _).mono ?_); rintro e w' ⟨rfl, h6, d6, rfl⟩)
          go_returns
          exact ⟨ret_int hp.out.symm, (by repeat' (first | (with_reducible exact Grows.refl _) | (with_reducible refine Grows.alloc ?_ _) | (with_reducible refine Grows.drew ?_) | (with_reducible refine Grows.ext ?_ _ _)))⟩
        · have hp := Lib.hid (show pnErr kd 4 m ck cn s = 0 by simp [pnErr, pnB, mayB, colB, e1', e2, e3, e4])
          have e2' : (!s.toList.isEmpty) = false := by simp [e2]
          go_enter Try.func15, Try.ntmps15
          go_wp2_with (go_at_call 30; (with_reducible refine (Hc.out _).mono ?_); rintro e w' ⟨rfl, h6, d6, rfl⟩)
          go_returns
          exact ⟨ret_int hp.out.symm, (by repeat' (first | (with_reducible exact Grows.refl _) | (with_reducible refine Grows.alloc ?_ _) | (with_reducible refine Grows.drew ?_) | (with_reducible refine Grows.ext ?_ _ _)))⟩
      · have e1' : (kd == 39) = false := by simpa using e1
        have hp := Lib.hid (show pnErr kd 4 m ck cn s = 141 by simp [pnErr, pnB, e1'])
        go_enter Try.func15, Try.ntmps15
        go_wp2_with (go_at_call 30; (with_reducible refine (Hc.out _).mono ?_); rintro e w' ⟨rfl, h6, d6, rfl⟩)
        go_returns
        exact ⟨ret_int hp.out.symm, (by repeat' (first | (with_reducible exact Grows.refl _) | (with_reducible refine Grows.alloc ?_ _) | (with_reducible refine Grows.drew ?_) | (with_reducible refine Grows.ext ?_ _ _)))⟩
end Go.Proofs.Ytafokiobbceibaa
