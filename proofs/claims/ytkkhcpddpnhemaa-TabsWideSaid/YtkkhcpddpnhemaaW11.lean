/-
  Walks: Next and Back of the program.
-/
import Derived.Test.YtkkhcpddpnhemaaRows
import Derived.Test.YtkkhcpddpnhemaaLt
import Derived.Test.YtkkhcpddpnhemaaDefs
import Derived.Test.YtkkhcpddpnhemaaVis
import Derived.Test.YtkkhcpddpnhemaaW1
import Derived.Test.YtkkhcpddpnhemaaW8
import Derived.Test.YtkkhcpddpnhemaaW9
import Derived.Test.YtkkhcpddpnhemaaW10
import Derived.WalkKit
import Derived.WalkSpells
import Derived.WalkLawsBesides
import Derived.Handy
import Derived.Outline
import Derived.Lib.Hide
import Derived.Deep.Light
import Derived.Deep.LoopGhost
import Derived.BigGuardPart
import Derived.BigQuiet
import Derived.Deep.QuietTactic
import Derived.Deep.DeepCutAuto
import Derived.Test.YtkkhcpddpnhemaaReg
namespace Go.Proofs.Ytkkhcpddpnhemaa
open Go.RowKit


theorem next_no (a : Option Addr) (n cap : Nat) (col k : Int) (w : World) (h : ¬ (2 ≤ n ∧ n ≤ 80 ∧ 0 ≤ col ∧ col < n ∧ 0 ≤ k)) (hn : n ≤ 1000) : Calls Try.prog 11 #[.slice a n cap, .int .i64 col, .int .i64 k] w fun e w' => e = .returned (.tuple #[.int .i64 0, .int .i64 (mErr n col k)]) ∧ Grows w w' := by
  have Hg : Hid (∀ W, Calls Try.prog 34 #[.slice a n cap, .int .i64 col, .int .i64 k, .int .i64 1, .int .i64 ((n : Int) - 1)] W fun e w' => e = .returned (.tuple #[.int .i64 0, .int .i64 (mErr n col k)]) ∧ Grows W w') := Lib.hid fun W => by
    by_cases h1 : 2 ≤ n ∧ n ≤ 80 ∧ 0 ≤ col ∧ col < n
    · rw [mErr_c ⟨h1.1, h1.2.1⟩ (by omega)]
      exact goes_neg _ _ _ _ _ _ _ W h1 (by omega)
    · have := goes_no a n cap col k 1 ((n : Int) - 1) W h1
      have e : wErr n col = mErr n col k := by
        unfold wErr mErr
        split
        · rw [if_neg (by omega), if_neg (by omega)]
        · rfl
      rwa [e] at this
  generalize mErr n col k = er at *
  clear h
  go_enter Try.func11, Try.ntmps11
  go_wp2_with (go_at_call 34; refine (Hg.out _).mono ?_; rintro e w' ⟨rfl, h1, d1, rfl⟩)
  go_ret2
  exact ⟨rfl, (by repeat' (first | (with_reducible exact Grows.refl _) | (with_reducible assumption) | (with_reducible refine Grows.alloc ?_ _) | (with_reducible refine Grows.drew ?_) | (with_reducible refine Grows.ext ?_ _ _)))⟩
theorem next_ok (a : Option Addr) (n cap col k : Nat) (l : List Bool) (hl : l.length = n) (w : World) (ha : Bs w a l) (h : 2 ≤ n ∧ n ≤ 80) (hc : col < n) (hk : k < 9223372036854775808) : Calls Try.prog 11 #[.slice a n cap, .int .i64 col, .int .i64 k] w fun e w' => e = .returned (.tuple #[.int .i64 (nxt l k col), .int .i64 0]) ∧ Grows w w' := by
  obtain ⟨b, off, rfl, hb, hca⟩ := ha.at (k := 0) (by omega)
  have Hg : Hid (Calls Try.prog 34 #[.slice (some ⟨b, off, none⟩) n cap, .int .i64 col, .int .i64 k, .int .i64 1, .int .i64 ((n : Int) - 1)] w fun e w' => e = .returned (.tuple #[.int .i64 (nxt l k col), .int .i64 0]) ∧ Grows w w') := Lib.hid (by
    by_cases h0 : k = 0
    · subst h0
      rw [show nxt l 0 col = col from gN_zero _ _ _]
      exact goes_zero _ _ _ _ _ _ w ⟨h.1, h.2, by omega, by omega⟩
    · have := goes_f b off n cap col k (n - 1) ((n : Int) - 1) (by omega) l hl h hc (by omega) hk w hb hca
      refine this.mono fun e w' ⟨h1, h2⟩ => ⟨?_, Grows.of_below h2⟩
      rw [h1]
      unfold nxt
      first
        | (rw [hl]; rfl)
        | rfl)
  have hn := h.2
  generalize nxt l k col = r at *
  clear h ha hca
  go_enter Try.func11, Try.ntmps11
  go_wp2_with (go_at_call 34; refine Hg.out.mono ?_; rintro e w' ⟨rfl, h1, d1, rfl⟩)
  go_ret2
  exact ⟨rfl, (by repeat' (first | (with_reducible exact Grows.refl _) | (with_reducible assumption) | (with_reducible refine Grows.alloc ?_ _) | (with_reducible refine Grows.drew ?_) | (with_reducible refine Grows.ext ?_ _ _)))⟩
theorem lnext_ok (a : Option Addr) (n cap col k : Nat) (l : List Bool) (hl : l.length = n) (w : World) (ha : Bs w a l) (h : 2 ≤ n ∧ n ≤ 80) (hc : col < n) (hk : k < 9223372036854775808) : Calls Try.prog 24 #[.slice a n cap, .int .i64 col, .int .i64 k] w (Ret (.int .i64 (nxt l k col)) w) := by
  have Hg := Lib.hid (next_ok a n cap col k l hl w ha h hc hk)
  generalize nxt l k col = r at *
  clear h ha
  go_enter Try.func24, Try.ntmps24
  go_wp2_with (go_at_call 11; refine Hg.out.mono ?_; rintro e w' ⟨rfl, h1, d1, rfl⟩)
  go_returns
  exact ⟨rfl, (by repeat' (first | (with_reducible exact Grows.refl _) | (with_reducible assumption) | (with_reducible refine Grows.alloc ?_ _) | (with_reducible refine Grows.drew ?_) | (with_reducible refine Grows.ext ?_ _ _)))⟩
theorem mErr_ne {n : Nat} {col k : Int} (h : ¬ (2 ≤ n ∧ n ≤ 80 ∧ 0 ≤ col ∧ col < n ∧ 0 ≤ k)) : mErr n col k = 240 ∨ mErr n col k = 2 := by
  unfold mErr
  split
  · rw [if_neg (by omega)]
    exact .inr rfl
  · exact .inl rfl
theorem lnext_no (a : Option Addr) (n cap : Nat) (col k : Int) (w : World) (h : ¬ (2 ≤ n ∧ n ≤ 80 ∧ 0 ≤ col ∧ col < n ∧ 0 ≤ k)) (hn : n ≤ 1000) : Calls Try.prog 24 #[.slice a n cap, .int .i64 col, .int .i64 k] w (Ret (.int .i64 (-1)) w) := by
  have hg := next_no a n cap col k w h hn
  rcases mErr_ne h with he | he
  all_goals
    rw [he] at hg
    have Hg := Lib.hid hg
    clear h hg he
    go_enter Try.func24, Try.ntmps24
    go_wp2_with (go_at_call 11; refine Hg.out.mono ?_; rintro e w' ⟨rfl, h1, d1, rfl⟩)
    go_returns
    exact ⟨rfl, (by repeat' (first | (with_reducible exact Grows.refl _) | (with_reducible assumption) | (with_reducible refine Grows.alloc ?_ _) | (with_reducible refine Grows.drew ?_) | (with_reducible refine Grows.ext ?_ _ _)))⟩

theorem back_no (a : Option Addr) (n cap : Nat) (col k : Int) (w : World) (h : ¬ (2 ≤ n ∧ n ≤ 80 ∧ 0 ≤ col ∧ col < n ∧ 0 ≤ k)) (hn : n ≤ 1000) : Calls Try.prog 13 #[.slice a n cap, .int .i64 col, .int .i64 k] w fun e w' => e = .returned (.tuple #[.int .i64 0, .int .i64 (mErr n col k)]) ∧ Grows w w' := by
  have Hg : Hid (∀ W, Calls Try.prog 34 #[.slice a n cap, .int .i64 col, .int .i64 k, .int .i64 (-1), .int .i64 0] W fun e w' => e = .returned (.tuple #[.int .i64 0, .int .i64 (mErr n col k)]) ∧ Grows W w') := Lib.hid fun W => by
    by_cases h1 : 2 ≤ n ∧ n ≤ 80 ∧ 0 ≤ col ∧ col < n
    · rw [mErr_c ⟨h1.1, h1.2.1⟩ (by omega)]
      exact goes_neg _ _ _ _ _ _ _ W h1 (by omega)
    · have := goes_no a n cap col k (-1) 0 W h1
      have e : wErr n col = mErr n col k := by
        unfold wErr mErr
        split
        · rw [if_neg (by omega), if_neg (by omega)]
        · rfl
      rwa [e] at this
  generalize mErr n col k = er at *
  clear h
  go_enter Try.func13, Try.ntmps13
  go_wp2_with (go_at_call 34; refine (Hg.out _).mono ?_; rintro e w' ⟨rfl, h1, d1, rfl⟩)
  go_ret2
  exact ⟨rfl, (by repeat' (first | (with_reducible exact Grows.refl _) | (with_reducible assumption) | (with_reducible refine Grows.alloc ?_ _) | (with_reducible refine Grows.drew ?_) | (with_reducible refine Grows.ext ?_ _ _)))⟩
theorem back_ok (a : Option Addr) (n cap col k : Nat) (l : List Bool) (hl : l.length = n) (w : World) (ha : Bs w a l) (h : 2 ≤ n ∧ n ≤ 80) (hc : col < n) (hk : k < 9223372036854775808) : Calls Try.prog 13 #[.slice a n cap, .int .i64 col, .int .i64 k] w fun e w' => e = .returned (.tuple #[.int .i64 (bck l k col), .int .i64 0]) ∧ Grows w w' := by
  obtain ⟨b, off, rfl, hb, hca⟩ := ha.at (k := 0) (by omega)
  have Hg : Hid (Calls Try.prog 34 #[.slice (some ⟨b, off, none⟩) n cap, .int .i64 col, .int .i64 k, .int .i64 (-1), .int .i64 0] w fun e w' => e = .returned (.tuple #[.int .i64 (bck l k col), .int .i64 0]) ∧ Grows w w') := Lib.hid (by
    by_cases h0 : k = 0
    · subst h0
      rw [show bck l 0 col = col from gN_zero _ _ _]
      exact goes_zero _ _ _ _ _ _ w ⟨h.1, h.2, by omega, by omega⟩
    · have := goes_b b off n cap col k 0 0 (by omega) l hl h hc (by omega) hk w hb hca
      refine this.mono fun e w' ⟨h1, h2⟩ => ⟨?_, Grows.of_below h2⟩
      rw [h1]
      unfold bck
      first
        | (rw [hl]; rfl)
        | rfl)
  have hn := h.2
  generalize bck l k col = r at *
  clear h ha hca
  go_enter Try.func13, Try.ntmps13
  go_wp2_with (go_at_call 34; refine Hg.out.mono ?_; rintro e w' ⟨rfl, h1, d1, rfl⟩)
  go_ret2
  exact ⟨rfl, (by repeat' (first | (with_reducible exact Grows.refl _) | (with_reducible assumption) | (with_reducible refine Grows.alloc ?_ _) | (with_reducible refine Grows.drew ?_) | (with_reducible refine Grows.ext ?_ _ _)))⟩
theorem lback_ok (a : Option Addr) (n cap col k : Nat) (l : List Bool) (hl : l.length = n) (w : World) (ha : Bs w a l) (h : 2 ≤ n ∧ n ≤ 80) (hc : col < n) (hk : k < 9223372036854775808) : Calls Try.prog 25 #[.slice a n cap, .int .i64 col, .int .i64 k] w (Ret (.int .i64 (bck l k col)) w) := by
  have Hg := Lib.hid (back_ok a n cap col k l hl w ha h hc hk)
  generalize bck l k col = r at *
  clear h ha
  go_enter Try.func25, Try.ntmps25
  go_wp2_with (go_at_call 13; refine Hg.out.mono ?_; rintro e w' ⟨rfl, h1, d1, rfl⟩)
  go_returns
  exact ⟨rfl, (by repeat' (first | (with_reducible exact Grows.refl _) | (with_reducible assumption) | (with_reducible refine Grows.alloc ?_ _) | (with_reducible refine Grows.drew ?_) | (with_reducible refine Grows.ext ?_ _ _)))⟩
theorem mErr_ne2 {n : Nat} {col k : Int} (h : ¬ (2 ≤ n ∧ n ≤ 80 ∧ 0 ≤ col ∧ col < n ∧ 0 ≤ k)) : mErr n col k = 240 ∨ mErr n col k = 2 := by
  unfold mErr
  split
  · rw [if_neg (by omega)]
    exact .inr rfl
  · exact .inl rfl
theorem lback_no (a : Option Addr) (n cap : Nat) (col k : Int) (w : World) (h : ¬ (2 ≤ n ∧ n ≤ 80 ∧ 0 ≤ col ∧ col < n ∧ 0 ≤ k)) (hn : n ≤ 1000) : Calls Try.prog 25 #[.slice a n cap, .int .i64 col, .int .i64 k] w (Ret (.int .i64 (-1)) w) := by
  have hg := back_no a n cap col k w h hn
  rcases mErr_ne h with he | he
  all_goals
    rw [he] at hg
    have Hg := Lib.hid hg
    clear h hg he
    go_enter Try.func25, Try.ntmps25
    go_wp2_with (go_at_call 13; refine Hg.out.mono ?_; rintro e w' ⟨rfl, h1, d1, rfl⟩)
    go_returns
    exact ⟨rfl, (by repeat' (first | (with_reducible exact Grows.refl _) | (with_reducible assumption) | (with_reducible refine Grows.alloc ?_ _) | (with_reducible refine Grows.drew ?_) | (with_reducible refine Grows.ext ?_ _ _)))⟩
end Go.Proofs.Ytkkhcpddpnhemaa
