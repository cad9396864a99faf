/-
  Walk: CheckPen of the reference, N = n.
-/
import Derived.Test.YtafokiobbceibaaRows
import Derived.Test.YtafokiobbceibaaLt
import Derived.Test.YtafokiobbceibaaDefs
import Derived.Test.YtafokiobbceibaaBits
import Derived.Test.YtafokiobbceibaaW1
import Derived.Test.YtafokiobbceibaaW4
import Derived.Test.YtafokiobbceibaaW5
import Derived.Test.YtafokiobbceibaaW18
import Derived.WalkKit
import Derived.WalkSpells
import Derived.WalkLawsBesides
import Derived.Handy
import Derived.Laws.EntriesVeiled
import Derived.Lib.Hide
import Derived.Deep.Light
import Derived.Deep.LoopGhost
import Derived.BigGuardPart
import Derived.BigQuiet
import Derived.Deep.QuietTactic
import Derived.Deep.RegionHeld3
import Derived.Test.YtafokiobbceibaaReg
import Derived.Test.YtafokiobbceibaaReg3
import Derived.Test.YtafokiobbceibaaReg4
namespace Go.Proofs.Ytafokiobbceibaa
open Go.RowKit


set_option maxHeartbeats 8000000 in
theorem rcheckPen_7 (kd n m ck cn : Int) (s : ByteArray) (hn : ¬ (0 ≤ n ∧ n ≤ 6)) (w : World) : Calls Try.prog 15 #[.agg #[.int .i64 kd, .int .i64 n, .int .i64 m, .int .i64 ck, .int .i64 cn, .string s]] w (Ret (.int .i64 (pnErr kd n m ck cn s)) w) := by
  have n0 : (n == 0) = false := by simp; omega
  have n1 : (n == 1) = false := by simp; omega
  have n2 : (n == 2) = false := by simp; omega
  have n3 : (n == 3) = false := by simp; omega
  have n4 : (n == 4) = false := by simp; omega
  have n5 : (n == 5) = false := by simp; omega
  have n6 : (n == 6) = false := by simp; omega
  have Hn := Lib.hid hn
  clear hn
  cases e1 : (kd != 39)
  · have e1' : (kd == 39) = true := by simpa using e1
    cases e2 : s.toList.isEmpty
    · have hp := Lib.hid (show pnErr kd n m ck cn s = 141 by simp [pnErr, pnB, e2])
      have e2' : (!s.toList.isEmpty) = true := by simp [e2]
      go_enter Try.func15, Try.ntmps15
      go_wp2_with fail
      go_returns
      exact ⟨ret_int hp.out.symm, (by repeat' (first | (with_reducible exact Grows.refl _) | (with_reducible refine Grows.alloc ?_ _) | (with_reducible refine Grows.drew ?_) | (with_reducible refine Grows.ext ?_ _ _)))⟩
    · have hp := Lib.hid (show pnErr kd n m ck cn s = 141 by simp [pnErr, pnB, mayB, colB, e1', e2, Hn.out])
      have e2' : (!s.toList.isEmpty) = false := by simp [e2]
      go_enter Try.func15, Try.ntmps15
      go_wp2_with fail
      go_returns
      exact ⟨ret_int hp.out.symm, (by repeat' (first | (with_reducible exact Grows.refl _) | (with_reducible refine Grows.alloc ?_ _) | (with_reducible refine Grows.drew ?_) | (with_reducible refine Grows.ext ?_ _ _)))⟩
  · have e1' : (kd == 39) = false := by simpa using e1
    have hp := Lib.hid (show pnErr kd n m ck cn s = 141 by simp [pnErr, pnB, e1'])
    go_enter Try.func15, Try.ntmps15
    go_wp2_with fail
    go_returns
    exact ⟨ret_int hp.out.symm, (by repeat' (first | (with_reducible exact Grows.refl _) | (with_reducible refine Grows.alloc ?_ _) | (with_reducible refine Grows.drew ?_) | (with_reducible refine Grows.ext ?_ _ _)))⟩
end Go.Proofs.Ytafokiobbceibaa
