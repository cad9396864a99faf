/-
  Walks: Next and Back of the reference.
-/
import Derived.Test.YtkkhcpddpnhemaaRows
import Derived.Test.YtkkhcpddpnhemaaLt
import Derived.Test.YtkkhcpddpnhemaaDefs
import Derived.Test.YtkkhcpddpnhemaaVis
import Derived.Test.YtkkhcpddpnhemaaW1
import Derived.WalkKit
import Derived.WalkSpells
import Derived.WalkLawsBesides
import Derived.Handy
import Derived.Outline
import Derived.Lib.Hide
import Derived.Deep.Light
import Derived.Deep.LoopGhost
import Derived.BigGuardPart
import Derived.BigQuiet
import Derived.Deep.QuietTactic
import Derived.Deep.DeepCutAuto
import Derived.Test.YtkkhcpddpnhemaaReg
namespace Go.Proofs.Ytkkhcpddpnhemaa
open Go.RowKit


theorem rnext_no (a : Option Addr) (n cap : Nat) (col k : Int) (w : World) (h : ¬ (2 ≤ n ∧ n ≤ 80 ∧ 0 ≤ col ∧ col < n ∧ 0 ≤ k)) : Calls Try.prog 12 #[.slice a n cap, .int .i64 col, .int .i64 k] w fun e w' => e = .returned (.tuple #[.int .i64 0, .int .i64 (mErr n col k)]) ∧ w = w' := by
  have hr := right_any a n cap
  by_cases h1 : 2 ≤ n ∧ n ≤ 80
  · rw [tOk_ok h1] at hr
    rw [mErr_c h1 (by omega)]
    have Hr := Lib.hid hr
    have hc : col < 0 ∨ (0 ≤ col ∧ (n : Int) ≤ col) ∨ (0 ≤ col ∧ col < n ∧ k < 0) := by omega
    clear hr h
    rcases hc with hc | hc | hc
    · have e1 : decide (col < 0) = true := by simp; omega
      clear hc
      go_enter Try.func12, Try.ntmps12
      go_wp2_with (go_at_call 35; refine (Hr.out _).mono ?_; rintro e w' ⟨rfl, rfl⟩)
      go_ret2
      exact ⟨rfl, rfl⟩
  
    · have e1 : decide (col < 0) = false := by simp; omega
      have e2 : decide ((n : Int) ≤ col) = true := by simp; omega
      clear hc
      go_enter Try.func12, Try.ntmps12
      go_wp2_with (go_at_call 35; refine (Hr.out _).mono ?_; rintro e w' ⟨rfl, rfl⟩)
      go_ret2
      exact ⟨rfl, rfl⟩
  
    · have e1 : decide (col < 0) = false := by simp; omega
      have e2 : decide ((n : Int) ≤ col) = false := by simp; omega
      have e3 : decide (k < 0) = true := by simp; omega
      clear hc
      go_enter Try.func12, Try.ntmps12
      go_wp2_with (go_at_call 35; refine (Hr.out _).mono ?_; rintro e w' ⟨rfl, rfl⟩)
      go_ret2
      exact ⟨rfl, rfl⟩
  
  · rw [tOk_no h1] at hr
    rw [mErr_t h1]
    have Hr := Lib.hid hr
    clear hr h h1
    go_enter Try.func12, Try.ntmps12
    go_wp2_with (go_at_call 35; refine (Hr.out _).mono ?_; rintro e w' ⟨rfl, rfl⟩)
    go_ret2
    exact ⟨rfl, rfl⟩

theorem rback_no (a : Option Addr) (n cap : Nat) (col k : Int) (w : World) (h : ¬ (2 ≤ n ∧ n ≤ 80 ∧ 0 ≤ col ∧ col < n ∧ 0 ≤ k)) : Calls Try.prog 14 #[.slice a n cap, .int .i64 col, .int .i64 k] w fun e w' => e = .returned (.tuple #[.int .i64 0, .int .i64 (mErr n col k)]) ∧ w = w' := by
  have hr := right_any a n cap
  by_cases h1 : 2 ≤ n ∧ n ≤ 80
  · rw [tOk_ok h1] at hr
    rw [mErr_c h1 (by omega)]
    have Hr := Lib.hid hr
    have hc : col < 0 ∨ (0 ≤ col ∧ (n : Int) ≤ col) ∨ (0 ≤ col ∧ col < n ∧ k < 0) := by omega
    clear hr h
    rcases hc with hc | hc | hc
    · have e1 : decide (col < 0) = true := by simp; omega
      clear hc
      go_enter Try.func14, Try.ntmps14
      go_wp2_with (go_at_call 35; refine (Hr.out _).mono ?_; rintro e w' ⟨rfl, rfl⟩)
      go_ret2
      exact ⟨rfl, rfl⟩
  
    · have e1 : decide (col < 0) = false := by simp; omega
      have e2 : decide ((n : Int) ≤ col) = true := by simp; omega
      clear hc
      go_enter Try.func14, Try.ntmps14
      go_wp2_with (go_at_call 35; refine (Hr.out _).mono ?_; rintro e w' ⟨rfl, rfl⟩)
      go_ret2
      exact ⟨rfl, rfl⟩
  
    · have e1 : decide (col < 0) = false := by simp; omega
      have e2 : decide ((n : Int) ≤ col) = false := by simp; omega
      have e3 : decide (k < 0) = true := by simp; omega
      clear hc
      go_enter Try.func14, Try.ntmps14
      go_wp2_with (go_at_call 35; refine (Hr.out _).mono ?_; rintro e w' ⟨rfl, rfl⟩)
      go_ret2
      exact ⟨rfl, rfl⟩
  
  · rw [tOk_no h1] at hr
    rw [mErr_t h1]
    have Hr := Lib.hid hr
    clear hr h h1
    go_enter Try.func14, Try.ntmps14
    go_wp2_with (go_at_call 35; refine (Hr.out _).mono ?_; rintro e w' ⟨rfl, rfl⟩)
    go_ret2
    exact ⟨rfl, rfl⟩

set_option maxHeartbeats 2000000 in
theorem rnext_ok (a : Option Addr) (n cap col k : Nat) (l : List Bool) (hl : l.length = n) (w : World) (ha : Bs w a l) (h : 2 ≤ n ∧ n ≤ 80) (hc : col < n) (hk : k < 9223372036854775808) : Calls Try.prog 12 #[.slice a n cap, .int .i64 col, .int .i64 k] w fun e w' => e = .returned (.tuple #[.int .i64 (nxt l k col), .int .i64 0]) ∧ w = w' := by
  have hr := right_any a n cap
  rw [tOk_ok h] at hr
  have Hr := Lib.hid hr
  obtain ⟨b, off, rfl, hb, hca⟩ := ha.at (k := 0) (by omega)
  have Hc := Lib.hid hca
  have Hl := Lib.hid hl
  have h80 := h.2
  have e1 : decide ((col : Int) < 0) = false := by simp
  have e2 : decide ((n : Int) ≤ col) = false := by simp; omega
  have e2' : decide (n ≤ col) = false := by simp; omega
  have e3 : decide ((k : Int) < 0) = false := by simp
  clear hr h hca hl ha
  go_enter Try.func12, Try.ntmps12
  go_wp2_with (go_at_call 35; refine (Hr.out _).mono ?_; rintro e w' ⟨rfl, rfl⟩)
  go_loop [2, 8] (fun m i => ∃ p c : Nat, i = .int .i64 ((col : Int) + p) ∧ m = .int .i64 ((k : Int) - c) ∧ p ≤ (l.length - (col + 1)) + 1 ∧ Hid (c = (vis (fwd col) l (p - 1)).length) ∧ (p = 0 → c = 0) ∧ (0 < p → c < k) ∧ c ≤ p) (fun _ i => n - (intOf i).toNat)
  case atStart => exact ⟨0, 0, by simp, by go_num, by omega, Lib.hid rfl, fun _ => rfl, fun h => by omega, by omega⟩
  case round =>
    obtain ⟨p, c, rfl, rfl, hp, hcc, hp0, hpk, hcp⟩ := hrel
    have hp0' : p = 0 ∨ (0 < p ∧ c < k) := by omega
    clear hpk
    rcases hp0' with rfl | ⟨hp1, hck⟩
    · obtain rfl : c = 0 := hp0 rfl
      clear hp0 hcc
      have e5 : decide (col < col) = false := by simp
      have e6 : decide (col < n) = true := by simp; omega
      have e7 : decide ((col : Int) < n) = true := by simp; omega
      by_cases hk0 : k = 0
      · have HR : Hid (nxt l k col = col) := Lib.hid (by rw [hk0]; exact gN_zero _ _ _)
        have e4 : (((k : Int) - 0) == 0) = true := by simp [hk0]
        have e4' : ((k : Int) == 0) = true := by simp [hk0]
        clear hk0
        go_wp2
        go_ret2
        exact ⟨by rw [HR.out]; simp, rfl⟩
      · have e4 : ((k : Int) == 0) = false := by simp; omega
        have e4' : ((k : Int) - 0 == 0) = false := by simp; omega
        have hkp : 0 < k := by omega
        clear hk0
        go_wp2
        go_round
        case rel => exact ⟨0 + 1, 0, by go_num, by go_num, by omega, Lib.hid rfl, fun _ => rfl, fun _ => by omega, by omega⟩
        case measure => first | (simp [intOf]; done) | (simp [intOf]; omega)
    · clear hp0
      by_cases hin : p ≤ (l.length - (col + 1))
      · have HL := Lib.hid (vis_succ (fwd col) l (p - 1))
        have hix : fwd col (p - 1) = col + p := by unfold fwd; omega
        have hix2 : col + p < l.length := by have := Hl.out; omega
        have c1 := Hc.out (col + p) hix2
        have HX := Lib.hid hix
        have e5 : decide ((col : Int) < (col : Int) + p) = true := by simp; omega
        have e7 : decide ((col : Int) + p < n) = true := by have := Hl.out; simp; omega
        have hi1 : (col : Int) + p < n := by have := Hl.out; omega
        have hi2 : col + p < n := by omega
        have HY : Hid (l[col + p]?.getD false = true → (vis (fwd col) l (l.length - (col + 1)))[c]? = some (col + p)) := Lib.hid fun h => by
          rw [hcc.out, ← HX.out]
          exact vis_hit (by omega) (by rw [HX.out]; exact h)
        have HC1 : Hid (l[col + p]?.getD false = true → c + 1 = (vis (fwd col) l p).length) := Lib.hid fun h => by
          have := vis_yes (f := fwd col) (l := l) (j := p - 1) (by rw [HX.out]; exact h)
          rw [show p - 1 + 1 = p from by omega] at this
          rw [this, List.length_append, ← hcc.out]
          rfl
        have HC0 : Hid (l[col + p]?.getD false = false → c = (vis (fwd col) l p).length) := Lib.hid fun h => by
          have := vis_no (f := fwd col) (l := l) (j := p - 1) (by rw [HX.out]; exact h)
          rw [show p - 1 + 1 = p from by omega] at this
          rw [this, ← hcc.out]
        clear hix hix2
        generalize hx : l[col + p]?.getD false = x at *
        cases x with
        | true =>
          by_cases hkc : k = c + 1
          · have HR : Hid (nxt l k col = col + p) := Lib.hid (gN_hit (HY.out rfl) hkc)
            have e6 : ((k : Int) - c - 1 == 0) = true := by simp; omega
            clear hx HY HC1 HC0 HL hkc
            go_wp2
            go_ret2
            exact ⟨by rw [HR.out]; simp, rfl⟩
          · have HC2 := Lib.hid (HC1.out rfl)
            have e6 : ((k : Int) - c - 1 == 0) = false := by simp; omega
            clear hx HY HC1 HC0 HL
            go_wp2
            go_round
            case rel => exact ⟨p + 1, c + 1, by go_num, by go_num, by omega, by simpa using HC2, fun h => by omega, fun _ => by omega, by omega⟩
            case measure => first | (simp [intOf]; done) | (simp [intOf]; omega)
        | false =>
          have HC2 := Lib.hid (HC0.out rfl)
          have e6 : ((k : Int) - c == 0) = false := by simp; omega
          clear hx HY HC1 HC0 HL
          go_wp2
          go_round
          case rel => exact ⟨p + 1, c, by go_num, by go_num, by omega, by simpa using HC2, fun h => by omega, fun _ => by omega, by omega⟩
          case measure => first | (simp [intOf]; done) | (simp [intOf]; omega)
      · have HR : Hid (nxt l k col = l.length - 1) := Lib.hid (gN_end (by have := hcc.out; rw [show p - 1 = (l.length - (col + 1)) from by omega] at this; omega))
        have e7 : decide ((col : Int) + p < n) = false := by have := Hl.out; simp; omega
        go_wp2
        go_ret2
        exact ⟨by (have := Hl.out; rw [HR.out, this]; simp; omega), rfl⟩
set_option maxHeartbeats 2000000 in
theorem rback_ok (a : Option Addr) (n cap col k : Nat) (l : List Bool) (hl : l.length = n) (w : World) (ha : Bs w a l) (h : 2 ≤ n ∧ n ≤ 80) (hc : col < n) (hk : k < 9223372036854775808) : Calls Try.prog 14 #[.slice a n cap, .int .i64 col, .int .i64 k] w fun e w' => e = .returned (.tuple #[.int .i64 (bck l k col), .int .i64 0]) ∧ w = w' := by
  have hr := right_any a n cap
  rw [tOk_ok h] at hr
  have Hr := Lib.hid hr
  obtain ⟨b, off, rfl, hb, hca⟩ := ha.at (k := 0) (by omega)
  have Hc := Lib.hid hca
  have Hl := Lib.hid hl
  have h80 := h.2
  have e1 : decide ((col : Int) < 0) = false := by simp
  have e2 : decide ((n : Int) ≤ col) = false := by simp; omega
  have e2' : decide (n ≤ col) = false := by simp; omega
  have e3 : decide ((k : Int) < 0) = false := by simp
  clear hr h hca hl ha
  go_enter Try.func14, Try.ntmps14
  go_wp2_with (go_at_call 35; refine (Hr.out _).mono ?_; rintro e w' ⟨rfl, rfl⟩)
  go_loop [2, 8] (fun m i => ∃ p c : Nat, i = .int .i64 ((col : Int) - p) ∧ m = .int .i64 ((k : Int) - c) ∧ p ≤ col + 1 ∧ Hid (c = (vis (bwd col) l (p - 1)).length) ∧ (p = 0 → c = 0) ∧ (0 < p → c < k) ∧ c ≤ p) (fun _ i => (intOf i + 1).toNat)
  case atStart => exact ⟨0, 0, by simp, by go_num, by omega, Lib.hid rfl, fun _ => rfl, fun h => by omega, by omega⟩
  case round =>
    obtain ⟨p, c, rfl, rfl, hp, hcc, hp0, hpk, hcp⟩ := hrel
    have hp0' : p = 0 ∨ (0 < p ∧ c < k) := by omega
    clear hpk
    rcases hp0' with rfl | ⟨hp1, hck⟩
    · obtain rfl : c = 0 := hp0 rfl
      clear hp0 hcc
      have e5 : decide (col < col) = false := by simp
      have e7 : decide ((0 : Int) ≤ col) = true := by simp
      by_cases hk0 : k = 0
      · have HR : Hid (bck l k col = col) := Lib.hid (by rw [hk0]; exact gN_zero _ _ _)
        have e4 : (((k : Int) - 0) == 0) = true := by simp [hk0]
        have e4' : ((k : Int) == 0) = true := by simp [hk0]
        clear hk0
        go_wp2
        go_ret2
        exact ⟨by rw [HR.out]; simp, rfl⟩
      · have e4 : ((k : Int) == 0) = false := by simp; omega
        have e4' : ((k : Int) - 0 == 0) = false := by simp; omega
        have hkp : 0 < k := by omega
        clear hk0
        go_wp2
        go_round
        case rel => exact ⟨0 + 1, 0, by go_num, by go_num, by omega, Lib.hid rfl, fun _ => rfl, fun _ => by omega, by omega⟩
        case measure => first | (simp [intOf]; done) | (simp [intOf]; omega)
    · clear hp0
      by_cases hin : p ≤ col
      · have HL := Lib.hid (vis_succ (bwd col) l (p - 1))
        have hix : bwd col (p - 1) = (col - p) := by unfold bwd; omega
        have hix2 : (col - p) < l.length := by have := Hl.out; omega
        have c1 := Hc.out ((col - p)) hix2
        have HX := Lib.hid hix
        have e5 : decide ((col : Int) - p < col) = true := by simp; omega
        have hi1 : (0 : Int) ≤ (col : Int) - p := by omega
        have hi2 : (p : Int) ≤ col := by omega
        have hi3 : (col : Int) - p < n := by omega
        have e7 : decide ((0 : Int) ≤ (col : Int) - p) = true := by simp; omega
        have HY : Hid (l[(col - p)]?.getD false = true → (vis (bwd col) l col)[c]? = some ((col - p))) := Lib.hid fun h => by
          rw [hcc.out, ← HX.out]
          exact vis_hit (by omega) (by rw [HX.out]; exact h)
        have HC1 : Hid (l[(col - p)]?.getD false = true → c + 1 = (vis (bwd col) l p).length) := Lib.hid fun h => by
          have := vis_yes (f := bwd col) (l := l) (j := p - 1) (by rw [HX.out]; exact h)
          rw [show p - 1 + 1 = p from by omega] at this
          rw [this, List.length_append, ← hcc.out]
          rfl
        have HC0 : Hid (l[(col - p)]?.getD false = false → c = (vis (bwd col) l p).length) := Lib.hid fun h => by
          have := vis_no (f := bwd col) (l := l) (j := p - 1) (by rw [HX.out]; exact h)
          rw [show p - 1 + 1 = p from by omega] at this
          rw [this, ← hcc.out]
        clear hix hix2
        generalize hx : l[(col - p)]?.getD false = x at *
        cases x with
        | true =>
          by_cases hkc : k = c + 1
          · have HR : Hid (bck l k col = (col - p)) := Lib.hid (gN_hit (HY.out rfl) hkc)
            have e6 : ((k : Int) - c - 1 == 0) = true := by simp; omega
            clear hx HY HC1 HC0 HL hkc
            go_wp2
            go_ret2
            exact ⟨by rw [HR.out]; (simp; omega), rfl⟩
          · have HC2 := Lib.hid (HC1.out rfl)
            have e6 : ((k : Int) - c - 1 == 0) = false := by simp; omega
            clear hx HY HC1 HC0 HL
            go_wp2
            go_round
            case rel => exact ⟨p + 1, c + 1, by go_num, by go_num, by omega, by simpa using HC2, fun h => by omega, fun _ => by omega, by omega⟩
            case measure => first | (simp [intOf]; done) | (simp [intOf]; omega)
        | false =>
          have HC2 := Lib.hid (HC0.out rfl)
          have e6 : ((k : Int) - c == 0) = false := by simp; omega
          clear hx HY HC1 HC0 HL
          go_wp2
          go_round
          case rel => exact ⟨p + 1, c, by go_num, by go_num, by omega, by simpa using HC2, fun h => by omega, fun _ => by omega, by omega⟩
          case measure => first | (simp [intOf]; done) | (simp [intOf]; omega)
      · have HR : Hid (bck l k col = 0) := Lib.hid (gN_end (by have := hcc.out; rw [show p - 1 = col from by omega] at this; omega))
        have hi1 : (col : Int) - p < 0 := by omega
        have e7 : decide ((0 : Int) ≤ (col : Int) - p) = false := by simp; omega
        go_wp2
        go_ret2
        exact ⟨by (rw [HR.out]; rfl), rfl⟩
end Go.Proofs.Ytkkhcpddpnhemaa
