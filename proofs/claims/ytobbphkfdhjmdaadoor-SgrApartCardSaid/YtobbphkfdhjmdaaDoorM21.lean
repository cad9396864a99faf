/-
  Walk: CheckPen of the reference, N = 4. Walk: CheckPen of the reference, N = 5. Walk: CheckPen of the reference, N = 6. Walk: CheckPen of the reference, N = n. The reference: CheckPen.
-/
import Derived.Test.YtobbphkfdhjmdaaDoorRows
import Derived.Test.YtobbphkfdhjmdaaDoorM1
import Derived.Test.YtobbphkfdhjmdaaDoorM4
import Derived.Test.YtobbphkfdhjmdaaDoorM20
import Derived.WalkKit
import Derived.WalkSpells
import Derived.WalkLawsBesides
import Derived.Handy
import Derived.Laws.EntriesVeiled
import Derived.Lib.Hide
import Derived.Deep.Light
import Derived.Deep.LoopGhost
import Derived.BigGuardPart
import Derived.BigQuiet
import Derived.Deep.QuietTactic
import Derived.Deep.RegionHeld3
import Derived.Test.YtobbphkfdhjmdaaDoorM8
import Derived.Deep.DeepCutAuto
namespace Go.Proofs.YtobbphkfdhjmdaaDoor
open Go.RowKit


set_option maxHeartbeats 8000000 in
theorem rcheckPen_4 (kd m ck cn : Int) (s : ByteArray) (w : World) : Calls Tryd.prog 38 #[.agg #[.int .i64 kd, .int .i64 4, .int .i64 m, .int .i64 ck, .int .i64 cn, .string s]] w (Ret (.int .i64 (pnErr kd 4 m ck cn s)) w) := by
  cases e3 : (m == 0)
  · cases e1 : (kd != 39)
    · have e1' : (kd == 39) = true := by simpa using e1
      cases e2 : s.toList.isEmpty
      · have hp := Lib.hid (show pnErr kd 4 m ck cn s = 141 by simp [pnErr, pnB, e2])
        have e2' : (!s.toList.isEmpty) = true := by simp [e2]
        go_enter Tryd.func38, Tryd.ntmps38
        go_wp2_with fail
        go_returns
        exact ⟨ret_int hp.out.symm, (by repeat' (first | (with_reducible exact Grows.refl _) | (with_reducible refine Grows.alloc ?_ _) | (with_reducible refine Grows.drew ?_) | (with_reducible refine Grows.ext ?_ _ _)))⟩
      · have hp := Lib.hid (show pnErr kd 4 m ck cn s = 141 by simp [pnErr, pnB, mayB, colB, e1', e2, e3])
        have e2' : (!s.toList.isEmpty) = false := by simp [e2]
        go_enter Tryd.func38, Tryd.ntmps38
        go_wp2_with fail
        go_returns
        exact ⟨ret_int hp.out.symm, (by repeat' (first | (with_reducible exact Grows.refl _) | (with_reducible refine Grows.alloc ?_ _) | (with_reducible refine Grows.drew ?_) | (with_reducible refine Grows.ext ?_ _ _)))⟩
    · have e1' : (kd == 39) = false := by simpa using e1
      have hp := Lib.hid (show pnErr kd 4 m ck cn s = 141 by simp [pnErr, pnB, e1'])
      go_enter Tryd.func38, Tryd.ntmps38
      go_wp2_with fail
      go_returns
      exact ⟨ret_int hp.out.symm, (by repeat' (first | (with_reducible exact Grows.refl _) | (with_reducible refine Grows.alloc ?_ _) | (with_reducible refine Grows.drew ?_) | (with_reducible refine Grows.ext ?_ _ _)))⟩
  · have hc := fun W => rcolor_any ck cn W
    cases e4 : clOk ck cn
    · rw [e4, clErr_f] at hc
      have Hc := Lib.hid hc
      clear hc
      cases e1 : (kd != 39)
      · have e1' : (kd == 39) = true := by simpa using e1
        cases e2 : s.toList.isEmpty
        · have hp := Lib.hid (show pnErr kd 4 m ck cn s = 141 by simp [pnErr, pnB, e2])
          have e2' : (!s.toList.isEmpty) = true := by simp [e2]
          go_enter Tryd.func38, Tryd.ntmps38
          go_wp2_with (go_at_call 74; (with_reducible refine (Hc.out _).mono ?_); rintro e w' ⟨rfl, h6, d6, rfl⟩)
          go_returns
          exact ⟨ret_int hp.out.symm, (by repeat' (first | (with_reducible exact Grows.refl _) | (with_reducible refine Grows.alloc ?_ _) | (with_reducible refine Grows.drew ?_) | (with_reducible refine Grows.ext ?_ _ _)))⟩
        · have hp := Lib.hid (show pnErr kd 4 m ck cn s = 141 by simp [pnErr, pnB, mayB, colB, e1', e2, e3, e4])
          have e2' : (!s.toList.isEmpty) = false := by simp [e2]
          go_enter Tryd.func38, Tryd.ntmps38
          go_wp2_with (go_at_call 74; (with_reducible refine (Hc.out _).mono ?_); rintro e w' ⟨rfl, h6, d6, rfl⟩)
          go_returns
          exact ⟨ret_int hp.out.symm, (by repeat' (first | (with_reducible exact Grows.refl _) | (with_reducible refine Grows.alloc ?_ _) | (with_reducible refine Grows.drew ?_) | (with_reducible refine Grows.ext ?_ _ _)))⟩
      · have e1' : (kd == 39) = false := by simpa using e1
        have hp := Lib.hid (show pnErr kd 4 m ck cn s = 141 by simp [pnErr, pnB, e1'])
        go_enter Tryd.func38, Tryd.ntmps38
        go_wp2_with (go_at_call 74; (with_reducible refine (Hc.out _).mono ?_); rintro e w' ⟨rfl, h6, d6, rfl⟩)
        go_returns
        exact ⟨ret_int hp.out.symm, (by repeat' (first | (with_reducible exact Grows.refl _) | (with_reducible refine Grows.alloc ?_ _) | (with_reducible refine Grows.drew ?_) | (with_reducible refine Grows.ext ?_ _ _)))⟩
    · rw [e4, clErr_t] at hc
      have Hc := Lib.hid hc
      clear hc
      cases e1 : (kd != 39)
      · have e1' : (kd == 39) = true := by simpa using e1
        cases e2 : s.toList.isEmpty
        · have hp := Lib.hid (show pnErr kd 4 m ck cn s = 141 by simp [pnErr, pnB, e2])
          have e2' : (!s.toList.isEmpty) = true := by simp [e2]
          go_enter Tryd.func38, Tryd.ntmps38
          go_wp2_with (go_at_call 74; (with_reducible refine (Hc.out _).mono ?_); rintro e w' ⟨rfl, h6, d6, rfl⟩)
          go_returns
          exact ⟨ret_int hp.out.symm, (by repeat' (first | (with_reducible exact Grows.refl _) | (with_reducible refine Grows.alloc ?_ _) | (with_reducible refine Grows.drew ?_) | (with_reducible refine Grows.ext ?_ _ _)))⟩
        · have hp := Lib.hid (show pnErr kd 4 m ck cn s = 0 by simp [pnErr, pnB, mayB, colB, e1', e2, e3, e4])
          have e2' : (!s.toList.isEmpty) = false := by simp [e2]
          go_enter Tryd.func38, Tryd.ntmps38
          go_wp2_with (go_at_call 74; (with_reducible refine (Hc.out _).mono ?_); rintro e w' ⟨rfl, h6, d6, rfl⟩)
          go_returns
          exact ⟨ret_int hp.out.symm, (by repeat' (first | (with_reducible exact Grows.refl _) | (with_reducible refine Grows.alloc ?_ _) | (with_reducible refine Grows.drew ?_) | (with_reducible refine Grows.ext ?_ _ _)))⟩
      · have e1' : (kd == 39) = false := by simpa using e1
        have hp := Lib.hid (show pnErr kd 4 m ck cn s = 141 by simp [pnErr, pnB, e1'])
        go_enter Tryd.func38, Tryd.ntmps38
        go_wp2_with (go_at_call 74; (with_reducible refine (Hc.out _).mono ?_); rintro e w' ⟨rfl, h6, d6, rfl⟩)
        go_returns
        exact ⟨ret_int hp.out.symm, (by repeat' (first | (with_reducible exact Grows.refl _) | (with_reducible refine Grows.alloc ?_ _) | (with_reducible refine Grows.drew ?_) | (with_reducible refine Grows.ext ?_ _ _)))⟩
end Go.Proofs.YtobbphkfdhjmdaaDoor

namespace Go.Proofs.YtobbphkfdhjmdaaDoor
open Go.RowKit


set_option maxHeartbeats 8000000 in
theorem rcheckPen_5 (kd m ck cn : Int) (s : ByteArray) (w : World) : Calls Tryd.prog 38 #[.agg #[.int .i64 kd, .int .i64 5, .int .i64 m, .int .i64 ck, .int .i64 cn, .string s]] w (Ret (.int .i64 (pnErr kd 5 m ck cn s)) w) := by
  cases e3 : (m == 0)
  · cases e1 : (kd != 39)
    · have e1' : (kd == 39) = true := by simpa using e1
      cases e2 : s.toList.isEmpty
      · have hp := Lib.hid (show pnErr kd 5 m ck cn s = 141 by simp [pnErr, pnB, e2])
        have e2' : (!s.toList.isEmpty) = true := by simp [e2]
        go_enter Tryd.func38, Tryd.ntmps38
        go_wp2_with fail
        go_returns
        exact ⟨ret_int hp.out.symm, (by repeat' (first | (with_reducible exact Grows.refl _) | (with_reducible refine Grows.alloc ?_ _) | (with_reducible refine Grows.drew ?_) | (with_reducible refine Grows.ext ?_ _ _)))⟩
      · have hp := Lib.hid (show pnErr kd 5 m ck cn s = 141 by simp [pnErr, pnB, mayB, colB, e1', e2, e3])
        have e2' : (!s.toList.isEmpty) = false := by simp [e2]
        go_enter Tryd.func38, Tryd.ntmps38
        go_wp2_with fail
        go_returns
        exact ⟨ret_int hp.out.symm, (by repeat' (first | (with_reducible exact Grows.refl _) | (with_reducible refine Grows.alloc ?_ _) | (with_reducible refine Grows.drew ?_) | (with_reducible refine Grows.ext ?_ _ _)))⟩
    · have e1' : (kd == 39) = false := by simpa using e1
      have hp := Lib.hid (show pnErr kd 5 m ck cn s = 141 by simp [pnErr, pnB, e1'])
      go_enter Tryd.func38, Tryd.ntmps38
      go_wp2_with fail
      go_returns
      exact ⟨ret_int hp.out.symm, (by repeat' (first | (with_reducible exact Grows.refl _) | (with_reducible refine Grows.alloc ?_ _) | (with_reducible refine Grows.drew ?_) | (with_reducible refine Grows.ext ?_ _ _)))⟩
  · have hc := fun W => rcolor_any ck cn W
    cases e4 : clOk ck cn
    · rw [e4, clErr_f] at hc
      have Hc := Lib.hid hc
      clear hc
      cases e1 : (kd != 39)
      · have e1' : (kd == 39) = true := by simpa using e1
        cases e2 : s.toList.isEmpty
        · have hp := Lib.hid (show pnErr kd 5 m ck cn s = 141 by simp [pnErr, pnB, e2])
          have e2' : (!s.toList.isEmpty) = true := by simp [e2]
          go_enter Tryd.func38, Tryd.ntmps38
          go_wp2_with (go_at_call 74; (with_reducible refine (Hc.out _).mono ?_); rintro e w' ⟨rfl, h6, d6, rfl⟩)
          go_returns
          exact ⟨ret_int hp.out.symm, (by repeat' (first | (with_reducible exact Grows.refl _) | (with_reducible refine Grows.alloc ?_ _) | (with_reducible refine Grows.drew ?_) | (with_reducible refine Grows.ext ?_ _ _)))⟩
        · have hp := Lib.hid (show pnErr kd 5 m ck cn s = 141 by simp [pnErr, pnB, mayB, colB, e1', e2, e3, e4])
          have e2' : (!s.toList.isEmpty) = false := by simp [e2]
          go_enter Tryd.func38, Tryd.ntmps38
          go_wp2_with (go_at_call 74; (with_reducible refine (Hc.out _).mono ?_); rintro e w' ⟨rfl, h6, d6, rfl⟩)
          go_returns
          exact ⟨ret_int hp.out.symm, (by repeat' (first | (with_reducible exact Grows.refl _) | (with_reducible refine Grows.alloc ?_ _) | (with_reducible refine Grows.drew ?_) | (with_reducible refine Grows.ext ?_ _ _)))⟩
      · have e1' : (kd == 39) = false := by simpa using e1
        have hp := Lib.hid (show pnErr kd 5 m ck cn s = 141 by simp [pnErr, pnB, e1'])
        go_enter Tryd.func38, Tryd.ntmps38
        go_wp2_with (go_at_call 74; (with_reducible refine (Hc.out _).mono ?_); rintro e w' ⟨rfl, h6, d6, rfl⟩)
        go_returns
        exact ⟨ret_int hp.out.symm, (by repeat' (first | (with_reducible exact Grows.refl _) | (with_reducible refine Grows.alloc ?_ _) | (with_reducible refine Grows.drew ?_) | (with_reducible refine Grows.ext ?_ _ _)))⟩
    · rw [e4, clErr_t] at hc
      have Hc := Lib.hid hc
      clear hc
      cases e1 : (kd != 39)
      · have e1' : (kd == 39) = true := by simpa using e1
        cases e2 : s.toList.isEmpty
        · have hp := Lib.hid (show pnErr kd 5 m ck cn s = 141 by simp [pnErr, pnB, e2])
          have e2' : (!s.toList.isEmpty) = true := by simp [e2]
          go_enter Tryd.func38, Tryd.ntmps38
          go_wp2_with (go_at_call 74; (with_reducible refine (Hc.out _).mono ?_); rintro e w' ⟨rfl, h6, d6, rfl⟩)
          go_returns
          exact ⟨ret_int hp.out.symm, (by repeat' (first | (with_reducible exact Grows.refl _) | (with_reducible refine Grows.alloc ?_ _) | (with_reducible refine Grows.drew ?_) | (with_reducible refine Grows.ext ?_ _ _)))⟩
        · have hp := Lib.hid (show pnErr kd 5 m ck cn s = 0 by simp [pnErr, pnB, mayB, colB, e1', e2, e3, e4])
          have e2' : (!s.toList.isEmpty) = false := by simp [e2]
          go_enter Tryd.func38, Tryd.ntmps38
          go_wp2_with (go_at_call 74; (with_reducible refine (Hc.out _).mono ?_); rintro e w' ⟨rfl, h6, d6, rfl⟩)
          go_returns
          exact ⟨ret_int hp.out.symm, (by repeat' (first | (with_reducible exact Grows.refl _) | (with_reducible refine Grows.alloc ?_ _) | (with_reducible refine Grows.drew ?_) | (with_reducible refine Grows.ext ?_ _ _)))⟩
      · have e1' : (kd == 39) = false := by simpa using e1
        have hp := Lib.hid (show pnErr kd 5 m ck cn s = 141 by simp [pnErr, pnB, e1'])
        go_enter Tryd.func38, Tryd.ntmps38
        go_wp2_with (go_at_call 74; (with_reducible refine (Hc.out _).mono ?_); rintro e w' ⟨rfl, h6, d6, rfl⟩)
        go_returns
        exact ⟨ret_int hp.out.symm, (by repeat' (first | (with_reducible exact Grows.refl _) | (with_reducible refine Grows.alloc ?_ _) | (with_reducible refine Grows.drew ?_) | (with_reducible refine Grows.ext ?_ _ _)))⟩
end Go.Proofs.YtobbphkfdhjmdaaDoor

namespace Go.Proofs.YtobbphkfdhjmdaaDoor
open Go.RowKit


set_option maxHeartbeats 8000000 in
theorem rcheckPen_6 (kd m ck cn : Int) (s : ByteArray) (w : World) : Calls Tryd.prog 38 #[.agg #[.int .i64 kd, .int .i64 6, .int .i64 m, .int .i64 ck, .int .i64 cn, .string s]] w (Ret (.int .i64 (pnErr kd 6 m ck cn s)) w) := by
  cases e3 : (m == 0)
  · cases e1 : (kd != 39)
    · have e1' : (kd == 39) = true := by simpa using e1
      cases e2 : s.toList.isEmpty
      · have hp := Lib.hid (show pnErr kd 6 m ck cn s = 141 by simp [pnErr, pnB, e2])
        have e2' : (!s.toList.isEmpty) = true := by simp [e2]
        go_enter Tryd.func38, Tryd.ntmps38
        go_wp2_with fail
        go_returns
        exact ⟨ret_int hp.out.symm, (by repeat' (first | (with_reducible exact Grows.refl _) | (with_reducible refine Grows.alloc ?_ _) | (with_reducible refine Grows.drew ?_) | (with_reducible refine Grows.ext ?_ _ _)))⟩
      · have hp := Lib.hid (show pnErr kd 6 m ck cn s = 141 by simp [pnErr, pnB, mayB, colB, e1', e2, e3])
        have e2' : (!s.toList.isEmpty) = false := by simp [e2]
        go_enter Tryd.func38, Tryd.ntmps38
        go_wp2_with fail
        go_returns
        exact ⟨ret_int hp.out.symm, (by repeat' (first | (with_reducible exact Grows.refl _) | (with_reducible refine Grows.alloc ?_ _) | (with_reducible refine Grows.drew ?_) | (with_reducible refine Grows.ext ?_ _ _)))⟩
    · have e1' : (kd == 39) = false := by simpa using e1
      have hp := Lib.hid (show pnErr kd 6 m ck cn s = 141 by simp [pnErr, pnB, e1'])
      go_enter Tryd.func38, Tryd.ntmps38
      go_wp2_with fail
      go_returns
      exact ⟨ret_int hp.out.symm, (by repeat' (first | (with_reducible exact Grows.refl _) | (with_reducible refine Grows.alloc ?_ _) | (with_reducible refine Grows.drew ?_) | (with_reducible refine Grows.ext ?_ _ _)))⟩
  · have hc := fun W => rcolor_any ck cn W
    cases e4 : clOk ck cn
    · rw [e4, clErr_f] at hc
      have Hc := Lib.hid hc
      clear hc
      cases e1 : (kd != 39)
      · have e1' : (kd == 39) = true := by simpa using e1
        cases e2 : s.toList.isEmpty
        · have hp := Lib.hid (show pnErr kd 6 m ck cn s = 141 by simp [pnErr, pnB, e2])
          have e2' : (!s.toList.isEmpty) = true := by simp [e2]
          go_enter Tryd.func38, Tryd.ntmps38
          go_wp2_with (go_at_call 74; (with_reducible refine (Hc.out _).mono ?_); rintro e w' ⟨rfl, h6, d6, rfl⟩)
          go_returns
          exact ⟨ret_int hp.out.symm, (by repeat' (first | (with_reducible exact Grows.refl _) | (with_reducible refine Grows.alloc ?_ _) | (with_reducible refine Grows.drew ?_) | (with_reducible refine Grows.ext ?_ _ _)))⟩
        · have hp := Lib.hid (show pnErr kd 6 m ck cn s = 141 by simp [pnErr, pnB, mayB, colB, e1', e2, e3, e4])
          have e2' : (!s.toList.isEmpty) = false := by simp [e2]
          go_enter Tryd.func38, Tryd.ntmps38
          go_wp2_with (go_at_call 74; (with_reducible refine (Hc.out _).mono ?_); rintro e w' ⟨rfl, h6, d6, rfl⟩)
          go_returns
          exact ⟨ret_int hp.out.symm, (by repeat' (first | (with_reducible exact Grows.refl _) | (with_reducible refine Grows.alloc ?_ _) | (with_reducible refine Grows.drew ?_) | (with_reducible refine Grows.ext ?_ _ _)))⟩
      · have e1' : (kd == 39) = false := by simpa using e1
        have hp := Lib.hid (show pnErr kd 6 m ck cn s = 141 by simp [pnErr, pnB, e1'])
        go_enter Tryd.func38, Tryd.ntmps38
        go_wp2_with (go_at_call 74; (with_reducible refine (Hc.out _).mono ?_); rintro e w' ⟨rfl, h6, d6, rfl⟩)
        go_returns
        exact ⟨ret_int hp.out.symm, (by repeat' (first | (with_reducible exact Grows.refl _) | (with_reducible refine Grows.alloc ?_ _) | (with_reducible refine Grows.drew ?_) | (with_reducible refine Grows.ext ?_ _ _)))⟩
    · rw [e4, clErr_t] at hc
      have Hc := Lib.hid hc
      clear hc
      cases e1 : (kd != 39)
      · have e1' : (kd == 39) = true := by simpa using e1
        cases e2 : s.toList.isEmpty
        · have hp := Lib.hid (show pnErr kd 6 m ck cn s = 141 by simp [pnErr, pnB, e2])
          have e2' : (!s.toList.isEmpty) = true := by simp [e2]
          go_enter Tryd.func38, Tryd.ntmps38
          go_wp2_with (go_at_call 74; (with_reducible refine (Hc.out _).mono ?_); rintro e w' ⟨rfl, h6, d6, rfl⟩)
          go_returns
          exact ⟨ret_int hp.out.symm, (by repeat' (first | (with_reducible exact Grows.refl _) | (with_reducible refine Grows.alloc ?_ _) | (with_reducible refine Grows.drew ?_) | (with_reducible refine Grows.ext ?_ _ _)))⟩
        · have hp := Lib.hid (show pnErr kd 6 m ck cn s = 0 by simp [pnErr, pnB, mayB, colB, e1', e2, e3, e4])
          have e2' : (!s.toList.isEmpty) = false := by simp [e2]
          go_enter Tryd.func38, Tryd.ntmps38
          go_wp2_with (go_at_call 74; (with_reducible refine (Hc.out _).mono ?_); rintro e w' ⟨rfl, h6, d6, rfl⟩)
          go_returns
          exact ⟨ret_int hp.out.symm, (by repeat' (first | (with_reducible exact Grows.refl _) | (with_reducible refine Grows.alloc ?_ _) | (with_reducible refine Grows.drew ?_) | (with_reducible refine Grows.ext ?_ _ _)))⟩
      · have e1' : (kd == 39) = false := by simpa using e1
        have hp := Lib.hid (show pnErr kd 6 m ck cn s = 141 by simp [pnErr, pnB, e1'])
        go_enter Tryd.func38, Tryd.ntmps38
        go_wp2_with (go_at_call 74; (with_reducible refine (Hc.out _).mono ?_); rintro e w' ⟨rfl, h6, d6, rfl⟩)
        go_returns
        exact ⟨ret_int hp.out.symm, (by repeat' (first | (with_reducible exact Grows.refl _) | (with_reducible refine Grows.alloc ?_ _) | (with_reducible refine Grows.drew ?_) | (with_reducible refine Grows.ext ?_ _ _)))⟩
end Go.Proofs.YtobbphkfdhjmdaaDoor

namespace Go.Proofs.YtobbphkfdhjmdaaDoor
open Go.RowKit


set_option maxHeartbeats 8000000 in
theorem rcheckPen_7 (kd n m ck cn : Int) (s : ByteArray) (hn : ¬ (0 ≤ n ∧ n ≤ 6)) (w : World) : Calls Tryd.prog 38 #[.agg #[.int .i64 kd, .int .i64 n, .int .i64 m, .int .i64 ck, .int .i64 cn, .string s]] w (Ret (.int .i64 (pnErr kd n m ck cn s)) w) := by
  have n0 : (n == 0) = false := by simp; omega
  have n1 : (n == 1) = false := by simp; omega
  have n2 : (n == 2) = false := by simp; omega
  have n3 : (n == 3) = false := by simp; omega
  have n4 : (n == 4) = false := by simp; omega
  have n5 : (n == 5) = false := by simp; omega
  have n6 : (n == 6) = false := by simp; omega
  have Hn := Lib.hid hn
  clear hn
  cases e1 : (kd != 39)
  · have e1' : (kd == 39) = true := by simpa using e1
    cases e2 : s.toList.isEmpty
    · have hp := Lib.hid (show pnErr kd n m ck cn s = 141 by simp [pnErr, pnB, e2])
      have e2' : (!s.toList.isEmpty) = true := by simp [e2]
      go_enter Tryd.func38, Tryd.ntmps38
      go_wp2_with fail
      go_returns
      exact ⟨ret_int hp.out.symm, (by repeat' (first | (with_reducible exact Grows.refl _) | (with_reducible refine Grows.alloc ?_ _) | (with_reducible refine Grows.drew ?_) | (with_reducible refine Grows.ext ?_ _ _)))⟩
    · have hp := Lib.hid (show pnErr kd n m ck cn s = 141 by simp [pnErr, pnB, mayB, colB, e1', e2, Hn.out])
      have e2' : (!s.toList.isEmpty) = false := by simp [e2]
      go_enter Tryd.func38, Tryd.ntmps38
      go_wp2_with fail
      go_returns
      exact ⟨ret_int hp.out.symm, (by repeat' (first | (with_reducible exact Grows.refl _) | (with_reducible refine Grows.alloc ?_ _) | (with_reducible refine Grows.drew ?_) | (with_reducible refine Grows.ext ?_ _ _)))⟩
  · have e1' : (kd == 39) = false := by simpa using e1
    have hp := Lib.hid (show pnErr kd n m ck cn s = 141 by simp [pnErr, pnB, e1'])
    go_enter Tryd.func38, Tryd.ntmps38
    go_wp2_with fail
    go_returns
    exact ⟨ret_int hp.out.symm, (by repeat' (first | (with_reducible exact Grows.refl _) | (with_reducible refine Grows.alloc ?_ _) | (with_reducible refine Grows.drew ?_) | (with_reducible refine Grows.ext ?_ _ _)))⟩
end Go.Proofs.YtobbphkfdhjmdaaDoor

namespace Go.Proofs.YtobbphkfdhjmdaaDoor
open Go.RowKit


theorem rcheckPen_any (kd n m ck cn : Int) (s : ByteArray) (w : World) : Calls Tryd.prog 38 #[.agg #[.int .i64 kd, .int .i64 n, .int .i64 m, .int .i64 ck, .int .i64 cn, .string s]] w (Ret (.int .i64 (pnErr kd n m ck cn s)) w) := by
  by_cases hn : 0 ≤ n ∧ n ≤ 6
  · have h : n = 0 ∨ n = 1 ∨ n = 2 ∨ n = 3 ∨ n = 4 ∨ n = 5 ∨ n = 6 := by omega
    rcases h with rfl | rfl | rfl | rfl | rfl | rfl | rfl
    · exact rcheckPen_0 kd m ck cn s w
    · exact rcheckPen_1 kd m ck cn s w
    · exact rcheckPen_2 kd m ck cn s w
    · exact rcheckPen_3 kd m ck cn s w
    · exact rcheckPen_4 kd m ck cn s w
    · exact rcheckPen_5 kd m ck cn s w
    · exact rcheckPen_6 kd m ck cn s w
  · exact rcheckPen_7 kd n m ck cn s hn w
end Go.Proofs.YtobbphkfdhjmdaaDoor

