/-
  Walk: CheckPen, N = 6. Walk: CheckPen, N = n. Walk: CheckPen.
-/
import Derived.Test.YtobbphkfdhjmdaaDoorRows
import Derived.Test.YtobbphkfdhjmdaaDoorM1
import Derived.Test.YtobbphkfdhjmdaaDoorM4
import Derived.WalkKit
import Derived.WalkSpells
import Derived.WalkLawsBesides
import Derived.Handy
import Derived.Laws.EntriesVeiled
import Derived.Lib.Hide
import Derived.Deep.Light
import Derived.Deep.LoopGhost
import Derived.BigGuardPart
import Derived.BigQuiet
import Derived.Deep.QuietTactic
import Derived.Deep.RegionHeld3
import Derived.Deep.DeepCutAuto
import Derived.Test.YtobbphkfdhjmdaaDoorM5
import Derived.Test.YtobbphkfdhjmdaaDoorM6
import Derived.Test.YtobbphkfdhjmdaaDoorM7
namespace Go.Proofs.YtobbphkfdhjmdaaDoor
open Go.RowKit


set_option maxHeartbeats 8000000 in
theorem checkPen_6 (kd m ck cn : Int) (s : ByteArray) (_hi : In64 m) (w : World) : Calls Tryd.prog 28 #[.agg #[.int .i64 kd, .int .i64 6, .int .i64 m, .int .i64 ck, .int .i64 cn, .string s]] w (Ret (.int .i64 (pnErr kd 6 m ck cn s)) w) := by
  have hlk := look67
  go_enter Tryd.func28, Tryd.ntmps28
  go_upto_region 1 with fail
  go_cut [3, 4] (fun s3 s4 wx => ∃ C : Nat, s3 = .pointer (some ⟨C, 0, none⟩) ∧ s4 = .bool true ∧ EntAt wx C (.func (.func 56) #[] #[]) (.bool true) ∧ ActAt wx w.heap.size kd (6) m ck cn s ∧ Grows w wx)
  case first =>
    go_region_with (first | (go_at_call 34; (with_reducible refine (pens_full _).mono ?_); rintro e w' ⟨rfl, rfl⟩))
    all_goals (go_wp2_with fail; go_meet; exact ⟨_, rfl, rfl, ⟨by simp [go_sem], by simp [go_sem], by simp [go_sem]⟩, ⟨by simp [go_sem], by simp [go_sem], by simp [go_sem], by simp [go_sem], by simp [go_sem], by simp [go_sem], by simp [go_sem]⟩, (by repeat' (first | (with_reducible exact Grows.refl _) | (with_reducible refine Grows.alloc ?_ _) | (with_reducible refine Grows.drew ?_) | (with_reducible refine Grows.ext ?_ _ _)))⟩)
  case rest =>
    obtain ⟨C, rfl, rfl, ⟨k0, k1, k2⟩, ⟨q0, q1, q2, q3, q4, q5, q6⟩, hG⟩ := hcut
    clear hlk
    generalize w.heap.size = Bx at *
    cases e1 : (kd != 39)
    · have e1' : (kd == 39) = true := by simpa using e1
      cases e2 : s.toList.isEmpty
      · have hp := Lib.hid (show pnErr kd 6 m ck cn s = 141 by simp [pnErr, pnB, e2])
        have e2' : (!s.toList.isEmpty) = true := by simp [e2]
        go_wp2_with fail
        go_returns
        exact ⟨ret_int hp.out.symm, (by repeat' (first | (with_reducible exact hG) | (with_reducible exact Grows.refl _) | (with_reducible refine Grows.alloc ?_ _) | (with_reducible refine Grows.drew ?_) | (with_reducible refine Grows.ext ?_ _ _)))⟩
      · have e2' : (!s.toList.isEmpty) = false := by simp [e2]
        have hy := fun W => zero_any m W
        cases e3 : (m == 0)
        · rw [e3] at hy
          have Hy := Lib.hid hy
          clear hy
          have hp := Lib.hid (show pnErr kd 6 m ck cn s = 141 by simp [pnErr, pnB, mayB, e3])
          go_wp2_with (go_at_call 56; (with_reducible refine (Hy.out _).mono ?_); rintro e w' ⟨rfl, h5, d5, rfl⟩)
          go_returns
          exact ⟨ret_int hp.out.symm, (by repeat' (first | (with_reducible exact hG) | (with_reducible exact Grows.refl _) | (with_reducible refine Grows.alloc ?_ _) | (with_reducible refine Grows.drew ?_) | (with_reducible refine Grows.ext ?_ _ _)))⟩
        · rw [e3] at hy
          have Hy := Lib.hid hy
          clear hy
          have hc := fun W => color_any ck cn W
          cases e4 : clOk ck cn
          · have hp := Lib.hid (show pnErr kd 6 m ck cn s = 141 by simp [pnErr, pnB, mayB, colB, e4])
            rw [e4, clErr_f] at hc
            have Hc := Lib.hid hc
            clear hc
            go_wp2_with (first | (go_at_call 56; (with_reducible refine (Hy.out _).mono ?_); rintro e w' ⟨rfl, h5, d5, rfl⟩) | (go_at_call 49; (with_reducible refine (Hc.out _).mono ?_); rintro e w' ⟨rfl, h6, d6, rfl⟩))
            go_returns
            exact ⟨ret_int hp.out.symm, (by repeat' (first | (with_reducible exact hG) | (with_reducible exact Grows.refl _) | (with_reducible refine Grows.alloc ?_ _) | (with_reducible refine Grows.drew ?_) | (with_reducible refine Grows.ext ?_ _ _)))⟩
          · have hp := Lib.hid (show pnErr kd 6 m ck cn s = 0 by simp [pnErr, pnB, mayB, colB, e1', e2, e3, e4])
            rw [e4, clErr_t] at hc
            have Hc := Lib.hid hc
            clear hc
            go_wp2_with (first | (go_at_call 56; (with_reducible refine (Hy.out _).mono ?_); rintro e w' ⟨rfl, h5, d5, rfl⟩) | (go_at_call 49; (with_reducible refine (Hc.out _).mono ?_); rintro e w' ⟨rfl, h6, d6, rfl⟩))
            go_returns
            exact ⟨ret_int hp.out.symm, (by repeat' (first | (with_reducible exact hG) | (with_reducible exact Grows.refl _) | (with_reducible refine Grows.alloc ?_ _) | (with_reducible refine Grows.drew ?_) | (with_reducible refine Grows.ext ?_ _ _)))⟩
    · have hp := Lib.hid (show pnErr kd 6 m ck cn s = 141 by (have e1' : (kd == 39) = false := by simpa using e1); simp [pnErr, pnB, e1'])
      go_wp2_with fail
      go_returns
      exact ⟨ret_int hp.out.symm, (by repeat' (first | (with_reducible exact hG) | (with_reducible exact Grows.refl _) | (with_reducible refine Grows.alloc ?_ _) | (with_reducible refine Grows.drew ?_) | (with_reducible refine Grows.ext ?_ _ _)))⟩
end Go.Proofs.YtobbphkfdhjmdaaDoor

namespace Go.Proofs.YtobbphkfdhjmdaaDoor
open Go.RowKit


set_option maxHeartbeats 8000000 in
theorem checkPen_7 (kd n m ck cn : Int) (s : ByteArray) (hn : ¬ (0 ≤ n ∧ n ≤ 6)) (_hi : In64 m) (w : World) : Calls Tryd.prog 28 #[.agg #[.int .i64 kd, .int .i64 n, .int .i64 m, .int .i64 ck, .int .i64 cn, .string s]] w (Ret (.int .i64 (pnErr kd n m ck cn s)) w) := by
  have hlk := look67
  have hnf := fun z C1 C2 C3 => findV_pen_no z C1 C2 C3 n hn
  go_enter Tryd.func28, Tryd.ntmps28
  go_upto_region 1 with fail
  go_cut [3, 4] (fun s3 s4 wx => ∃ C : Nat, s3 = .pointer (some ⟨C, 0, none⟩) ∧ s4 = .bool false ∧ EntAt wx C (.nilFunc) (.bool false) ∧ ActAt wx w.heap.size kd (n) m ck cn s ∧ Grows w wx)
  case first =>
    go_region_with (first | (go_at_call 34; (with_reducible refine (pens_full _).mono ?_); rintro e w' ⟨rfl, rfl⟩))
    all_goals (go_wp2_with fail; go_meet; exact ⟨_, rfl, rfl, ⟨by simp [go_sem], by simp [go_sem], by simp [go_sem]⟩, ⟨by simp [go_sem], by simp [go_sem], by simp [go_sem], by simp [go_sem], by simp [go_sem], by simp [go_sem], by simp [go_sem]⟩, (by repeat' (first | (with_reducible exact Grows.refl _) | (with_reducible refine Grows.alloc ?_ _) | (with_reducible refine Grows.drew ?_) | (with_reducible refine Grows.ext ?_ _ _)))⟩)
  case rest =>
    obtain ⟨C, rfl, rfl, ⟨k0, k1, k2⟩, ⟨q0, q1, q2, q3, q4, q5, q6⟩, hG⟩ := hcut
    clear hlk
    generalize w.heap.size = Bx at *
    cases e1 : (kd != 39)
    · have e1' : (kd == 39) = true := by simpa using e1
      cases e2 : s.toList.isEmpty
      · have hp := Lib.hid (show pnErr kd n m ck cn s = 141 by simp [pnErr, pnB, e2])
        have e2' : (!s.toList.isEmpty) = true := by simp [e2]
        go_wp2_with fail
        go_returns
        exact ⟨ret_int hp.out.symm, (by repeat' (first | (with_reducible exact hG) | (with_reducible exact Grows.refl _) | (with_reducible refine Grows.alloc ?_ _) | (with_reducible refine Grows.drew ?_) | (with_reducible refine Grows.ext ?_ _ _)))⟩
      · have e2' : (!s.toList.isEmpty) = false := by simp [e2]
        have hp := Lib.hid (show pnErr kd n m ck cn s = 141 by simp [pnErr, pnB]; omega)
        go_wp2_with fail
        go_returns
        exact ⟨ret_int hp.out.symm, (by repeat' (first | (with_reducible exact hG) | (with_reducible exact Grows.refl _) | (with_reducible refine Grows.alloc ?_ _) | (with_reducible refine Grows.drew ?_) | (with_reducible refine Grows.ext ?_ _ _)))⟩
    · have hp := Lib.hid (show pnErr kd n m ck cn s = 141 by (have e1' : (kd == 39) = false := by simpa using e1); simp [pnErr, pnB, e1'])
      go_wp2_with fail
      go_returns
      exact ⟨ret_int hp.out.symm, (by repeat' (first | (with_reducible exact hG) | (with_reducible exact Grows.refl _) | (with_reducible refine Grows.alloc ?_ _) | (with_reducible refine Grows.drew ?_) | (with_reducible refine Grows.ext ?_ _ _)))⟩
end Go.Proofs.YtobbphkfdhjmdaaDoor

namespace Go.Proofs.YtobbphkfdhjmdaaDoor
open Go.RowKit


theorem checkPen_any (kd n m ck cn : Int) (s : ByteArray) (hi : In64 m) (w : World) : Calls Tryd.prog 28 #[.agg #[.int .i64 kd, .int .i64 n, .int .i64 m, .int .i64 ck, .int .i64 cn, .string s]] w (Ret (.int .i64 (pnErr kd n m ck cn s)) w) := by
  by_cases hn : 0 ≤ n ∧ n ≤ 6
  · have h : n = 0 ∨ n = 1 ∨ n = 2 ∨ n = 3 ∨ n = 4 ∨ n = 5 ∨ n = 6 := by omega
    rcases h with rfl | rfl | rfl | rfl | rfl | rfl | rfl
    · exact checkPen_0 kd m ck cn s hi w
    · exact checkPen_1 kd m ck cn s hi w
    · exact checkPen_2 kd m ck cn s hi w
    · exact checkPen_3 kd m ck cn s hi w
    · exact checkPen_4 kd m ck cn s hi w
    · exact checkPen_5 kd m ck cn s hi w
    · exact checkPen_6 kd m ck cn s hi w
  · exact checkPen_7 kd n m ck cn s hn hi w
end Go.Proofs.YtobbphkfdhjmdaaDoor

