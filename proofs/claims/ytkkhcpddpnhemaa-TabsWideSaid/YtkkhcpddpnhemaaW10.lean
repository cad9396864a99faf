/-
  Walks: goes, the other ways.
-/
import Derived.Test.YtkkhcpddpnhemaaRows
import Derived.Test.YtkkhcpddpnhemaaLt
import Derived.Test.YtkkhcpddpnhemaaDefs
import Derived.Test.YtkkhcpddpnhemaaVis
import Derived.Test.YtkkhcpddpnhemaaW1
import Derived.WalkKit
import Derived.WalkSpells
import Derived.WalkLawsBesides
import Derived.Handy
import Derived.Outline
import Derived.Lib.Hide
import Derived.Deep.Light
import Derived.Deep.LoopGhost
import Derived.BigGuardPart
import Derived.BigQuiet
import Derived.Deep.QuietTactic
import Derived.Deep.DeepCutAuto
import Derived.Test.YtkkhcpddpnhemaaReg
namespace Go.Proofs.Ytkkhcpddpnhemaa
open Go.RowKit


theorem goes_no (a : Option Addr) (n cap : Nat) (col k st ed : Int) (w : World) (h : ¬ (2 ≤ n ∧ n ≤ 80 ∧ 0 ≤ col ∧ col < n)) : Calls Try.prog 34 #[.slice a n cap, .int .i64 col, .int .i64 k, .int .i64 st, .int .i64 ed] w fun e w' => e = .returned (.tuple #[.int .i64 0, .int .i64 (wErr n col)]) ∧ Grows w w' := by
  have hr := wrong_any a n cap col
  have he : wErr n col = 240 ∨ wErr n col = 2 := by
    unfold wErr
    split
    · split
      · omega
      · exact .inr rfl
    · exact .inl rfl
  rcases he with he | he
  all_goals
    rw [he] at hr ⊢
    have Hr := Lib.hid hr
    clear hr h he
    go_enter Try.func34, Try.ntmps34
    go_wp2_with (go_at_call 36; refine (Hr.out _).mono ?_; rintro e w' ⟨rfl, rfl⟩)
    first
      | exact bodyPost_ret (v := .tuple #[.int .i64 0, .int .i64 240]) (by simp [results, Try.results34, go_sem]) rfl ⟨rfl, (by repeat' (first | (with_reducible exact Grows.refl _) | (with_reducible assumption) | (with_reducible refine Grows.alloc ?_ _) | (with_reducible refine Grows.drew ?_) | (with_reducible refine Grows.ext ?_ _ _)))⟩
      | exact bodyPost_ret (v := .tuple #[.int .i64 0, .int .i64 2]) (by simp [results, Try.results34, go_sem]) rfl ⟨rfl, (by repeat' (first | (with_reducible exact Grows.refl _) | (with_reducible assumption) | (with_reducible refine Grows.alloc ?_ _) | (with_reducible refine Grows.drew ?_) | (with_reducible refine Grows.ext ?_ _ _)))⟩
theorem goes_neg (a : Option Addr) (n cap : Nat) (col k st ed : Int) (w : World) (h : 2 ≤ n ∧ n ≤ 80 ∧ 0 ≤ col ∧ col < n) (hk : k < 0) : Calls Try.prog 34 #[.slice a n cap, .int .i64 col, .int .i64 k, .int .i64 st, .int .i64 ed] w fun e w' => e = .returned (.tuple #[.int .i64 0, .int .i64 2]) ∧ Grows w w' := by
  have hr := wrong_any a n cap col
  rw [wErr_ok ⟨h.1, h.2.1⟩ ⟨h.2.2.1, h.2.2.2⟩] at hr
  have Hr := Lib.hid hr
  have e1 : decide (k < 0) = true := by simp; omega
  clear hr h hk
  go_enter Try.func34, Try.ntmps34
  go_wp2_with (go_at_call 36; refine (Hr.out _).mono ?_; rintro e w' ⟨rfl, rfl⟩)
  exact bodyPost_ret (v := .tuple #[.int .i64 0, .int .i64 2]) (by simp [results, Try.results34, go_sem]) rfl ⟨rfl, (by repeat' (first | (with_reducible exact Grows.refl _) | (with_reducible assumption) | (with_reducible refine Grows.alloc ?_ _) | (with_reducible refine Grows.drew ?_) | (with_reducible refine Grows.ext ?_ _ _)))⟩
theorem goes_zero (a : Option Addr) (n cap : Nat) (col st ed : Int) (w : World) (h : 2 ≤ n ∧ n ≤ 80 ∧ 0 ≤ col ∧ col < n) : Calls Try.prog 34 #[.slice a n cap, .int .i64 col, .int .i64 0, .int .i64 st, .int .i64 ed] w fun e w' => e = .returned (.tuple #[.int .i64 col, .int .i64 0]) ∧ Grows w w' := by
  have hr := wrong_any a n cap col
  rw [wErr_ok ⟨h.1, h.2.1⟩ ⟨h.2.2.1, h.2.2.2⟩] at hr
  have Hr := Lib.hid hr
  clear hr h
  go_enter Try.func34, Try.ntmps34
  go_wp2_with (go_at_call 36; refine (Hr.out _).mono ?_; rintro e w' ⟨rfl, rfl⟩)
  exact bodyPost_ret (v := .tuple #[.int .i64 col, .int .i64 0]) (by simp [results, Try.results34, go_sem]) rfl ⟨rfl, (by repeat' (first | (with_reducible exact Grows.refl _) | (with_reducible assumption) | (with_reducible refine Grows.alloc ?_ _) | (with_reducible refine Grows.drew ?_) | (with_reducible refine Grows.ext ?_ _ _)))⟩
end Go.Proofs.Ytkkhcpddpnhemaa
