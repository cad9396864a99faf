/-
  Walks: the checks.
-/
import Derived.Test.YtkkhcpddpnhemaaRows
import Derived.Test.YtkkhcpddpnhemaaLt
import Derived.Test.YtkkhcpddpnhemaaDefs
import Derived.WalkKit
import Derived.WalkSpells
import Derived.WalkLawsBesides
import Derived.Handy
import Derived.Outline
import Derived.Lib.Hide
import Derived.Deep.Light
import Derived.Deep.LoopGhost
import Derived.BigGuardPart
import Derived.BigQuiet
import Derived.Deep.QuietTactic
import Derived.Deep.DeepCutAuto
import Derived.Test.YtkkhcpddpnhemaaReg
namespace Go.Proofs.Ytkkhcpddpnhemaa
open Go.RowKit


theorem check_any (a : Option Addr) (n cap : Nat) (w : World) : Calls Try.prog 28 #[.slice a n cap] w fun e w' => e = .returned (.int .i64 (tErr n)) ∧ w = w' := by
  by_cases h1 : n < 2
  · have e1 : decide ((n : Int) < 2) = true := by simp; omega
    have e2 : decide (2 ≤ (n : Int)) = false := by simp; omega
    rw [tErr_no (by omega)]
    clear h1
    try clear h2
    go_enter Try.func28, Try.ntmps28
    go_wp2
    go_returns
    exact ⟨rfl, rfl⟩
  · by_cases h2 : 80 < n
    · have e1 : decide ((n : Int) < 2) = false := by simp; omega
      have e2 : decide (2 ≤ (n : Int)) = true := by simp; omega
      have e3 : decide (80 < (n : Int)) = true := by simp; omega
      have e4 : decide ((n : Int) ≤ 80) = false := by simp; omega
      rw [tErr_no (by omega)]
      clear h1
      try clear h2
      go_enter Try.func28, Try.ntmps28
      go_wp2
      go_returns
      exact ⟨rfl, rfl⟩
    · have e1 : decide ((n : Int) < 2) = false := by simp; omega
      have e2 : decide (2 ≤ (n : Int)) = true := by simp; omega
      have e3 : decide (80 < (n : Int)) = false := by simp; omega
      have e4 : decide ((n : Int) ≤ 80) = true := by simp; omega
      rw [tErr_ok (by omega)]
      clear h1
      try clear h2
      go_enter Try.func28, Try.ntmps28
      go_wp2
      go_returns
      exact ⟨rfl, rfl⟩

theorem right_any (a : Option Addr) (n cap : Nat) (w : World) : Calls Try.prog 35 #[.slice a n cap] w fun e w' => e = .returned (.bool (tOk n)) ∧ w = w' := by
  by_cases h1 : n < 2
  · have e1 : decide ((n : Int) < 2) = true := by simp; omega
    have e2 : decide (2 ≤ (n : Int)) = false := by simp; omega
    rw [tOk_no (by omega)]
    clear h1
    try clear h2
    go_enter Try.func35, Try.ntmps35
    go_wp2
    go_returns
    exact ⟨rfl, rfl⟩
  · by_cases h2 : 80 < n
    · have e1 : decide ((n : Int) < 2) = false := by simp; omega
      have e2 : decide (2 ≤ (n : Int)) = true := by simp; omega
      have e3 : decide (80 < (n : Int)) = true := by simp; omega
      have e4 : decide ((n : Int) ≤ 80) = false := by simp; omega
      rw [tOk_no (by omega)]
      clear h1
      try clear h2
      go_enter Try.func35, Try.ntmps35
      go_wp2
      go_returns
      exact ⟨rfl, rfl⟩
    · have e1 : decide ((n : Int) < 2) = false := by simp; omega
      have e2 : decide (2 ≤ (n : Int)) = true := by simp; omega
      have e3 : decide (80 < (n : Int)) = false := by simp; omega
      have e4 : decide ((n : Int) ≤ 80) = true := by simp; omega
      rw [tOk_ok (by omega)]
      clear h1
      try clear h2
      go_enter Try.func35, Try.ntmps35
      go_wp2
      go_returns
      exact ⟨rfl, rfl⟩

theorem rcheck_any (a : Option Addr) (n cap : Nat) (w : World) : Calls Try.prog 29 #[.slice a n cap] w fun e w' => e = .returned (.int .i64 (tErr n)) ∧ w = w' := by
  by_cases h : 2 ≤ n ∧ n ≤ 80
  · rw [tErr_ok h]
    have hr := right_any a n cap
    rw [tOk_ok h] at hr
    have Hr := Lib.hid hr
    clear hr h
    go_enter Try.func29, Try.ntmps29
    go_wp2_with (go_at_call 35; refine (Hr.out _).mono ?_; rintro e w' ⟨rfl, rfl⟩)
    go_returns
    exact ⟨rfl, rfl⟩
  · rw [tErr_no h]
    have hr := right_any a n cap
    rw [tOk_no h] at hr
    have Hr := Lib.hid hr
    clear hr h
    go_enter Try.func29, Try.ntmps29
    go_wp2_with (go_at_call 35; refine (Hr.out _).mono ?_; rintro e w' ⟨rfl, rfl⟩)
    go_returns
    exact ⟨rfl, rfl⟩
theorem wrong_any (a : Option Addr) (n cap : Nat) (col : Int) (w : World) : Calls Try.prog 36 #[.slice a n cap, .int .i64 col] w fun e w' => e = .returned (.int .i64 (wErr n col)) ∧ w = w' := by
  by_cases h : 2 ≤ n ∧ n ≤ 80
  · have hr := check_any a n cap
    rw [tErr_ok h] at hr
    have Hr := Lib.hid hr
    have hc : col < 0 ∨ (0 ≤ col ∧ (n : Int) ≤ col) ∨ (0 ≤ col ∧ col < n) := by omega
    rcases hc with hc | hc | hc
    · rw [wErr_c h (by omega)]
      have e1 : decide (col < 0) = true := by simp; omega
      clear hr h hc
      go_enter Try.func36, Try.ntmps36
      go_wp2_with (go_at_call 28; refine (Hr.out _).mono ?_; rintro e w' ⟨rfl, rfl⟩)
      go_returns
      exact ⟨rfl, rfl⟩
    · rw [wErr_c h (by omega)]
      have e1 : decide (col < 0) = false := by simp; omega
      have e2 : decide ((n : Int) ≤ col) = true := by simp; omega
      clear hr h hc
      go_enter Try.func36, Try.ntmps36
      go_wp2_with (go_at_call 28; refine (Hr.out _).mono ?_; rintro e w' ⟨rfl, rfl⟩)
      go_returns
      exact ⟨rfl, rfl⟩
    · rw [wErr_ok h (by omega)]
      have e1 : decide (col < 0) = false := by simp; omega
      have e2 : decide ((n : Int) ≤ col) = false := by simp; omega
      clear hr h hc
      go_enter Try.func36, Try.ntmps36
      go_wp2_with (go_at_call 28; refine (Hr.out _).mono ?_; rintro e w' ⟨rfl, rfl⟩)
      go_returns
      exact ⟨rfl, rfl⟩
  · have hr := check_any a n cap
    rw [tErr_no h] at hr
    rw [wErr_t h]
    have Hr := Lib.hid hr
    clear hr h
    go_enter Try.func36, Try.ntmps36
    go_wp2_with (go_at_call 28; refine (Hr.out _).mono ?_; rintro e w' ⟨rfl, rfl⟩)
    go_returns
    exact ⟨rfl, rfl⟩
end Go.Proofs.Ytkkhcpddpnhemaa
