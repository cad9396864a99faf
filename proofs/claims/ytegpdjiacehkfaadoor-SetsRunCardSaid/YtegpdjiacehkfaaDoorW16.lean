/-
  Walk: the law SetsRun.
-/
import Derived.Test.YtegpdjiacehkfaaDoorRows
import Derived.Test.YtegpdjiacehkfaaDoorArr
import Derived.Test.YtegpdjiacehkfaaDoorLt
import Derived.Test.YtegpdjiacehkfaaDoorDefs
import Derived.Test.YtegpdjiacehkfaaDoorW1
import Derived.Test.YtegpdjiacehkfaaDoorW5
import Derived.Test.YtegpdjiacehkfaaDoorW7
import Derived.Test.YtegpdjiacehkfaaDoorW8
import Derived.Test.YtegpdjiacehkfaaDoorW9
import Derived.Test.YtegpdjiacehkfaaDoorW10
import Derived.Test.YtegpdjiacehkfaaDoorW11
import Derived.Test.YtegpdjiacehkfaaDoorW12
import Derived.Test.YtegpdjiacehkfaaDoorW15
import Derived.WalkKit
import Derived.WalkSpells
import Derived.WalkLawsBesides
import Derived.Handy
import Derived.Lib.Hide
import Derived.Deep.Light
import Derived.Deep.LoopGhost
import Derived.BigGuardPart
import Derived.BigQuiet
import Derived.Deep.QuietTactic
namespace Go.Proofs.YtegpdjiacehkfaaDoor
open Go.RowKit


theorem choose_at0 (a b c d u o k : Int) (hi : In64 u) (h : rightB a b c d u o = true) (hk : 0 ≤ k ∧ k ≤ 1) (w : World) :
    Calls Tryd.prog 15 #[.agg #[.int .i64 a, .int .i64 b, .int .i64 c, .int .i64 d, .int .i64 u, .int .i64 o], .int .i64 0, .int .i64 k] w (Ret (.tuple #[.agg #[.int .i64 k, .int .i64 b, .int .i64 c, .int .i64 d, .int .i64 u, .int .i64 o], .int .i64 0]) w) := choose_ok a b c d u o 0 k hi h hk (by omega) w
theorem choose_at1 (a b c d u o k : Int) (hi : In64 u) (h : rightB a b c d u o = true) (hk : 0 ≤ k ∧ k ≤ 1) (w : World) :
    Calls Tryd.prog 15 #[.agg #[.int .i64 a, .int .i64 b, .int .i64 c, .int .i64 d, .int .i64 u, .int .i64 o], .int .i64 1, .int .i64 k] w (Ret (.tuple #[.agg #[.int .i64 a, .int .i64 k, .int .i64 c, .int .i64 d, .int .i64 u, .int .i64 o], .int .i64 0]) w) := choose_ok a b c d u o 1 k hi h hk (by omega) w
theorem choose_at2 (a b c d u o k : Int) (hi : In64 u) (h : rightB a b c d u o = true) (hk : 0 ≤ k ∧ k ≤ 1) (w : World) :
    Calls Tryd.prog 15 #[.agg #[.int .i64 a, .int .i64 b, .int .i64 c, .int .i64 d, .int .i64 u, .int .i64 o], .int .i64 2, .int .i64 k] w (Ret (.tuple #[.agg #[.int .i64 a, .int .i64 b, .int .i64 k, .int .i64 d, .int .i64 u, .int .i64 o], .int .i64 0]) w) := choose_ok a b c d u o 2 k hi h hk (by omega) w
theorem choose_at3 (a b c d u o k : Int) (hi : In64 u) (h : rightB a b c d u o = true) (hk : 0 ≤ k ∧ k ≤ 1) (w : World) :
    Calls Tryd.prog 15 #[.agg #[.int .i64 a, .int .i64 b, .int .i64 c, .int .i64 d, .int .i64 u, .int .i64 o], .int .i64 3, .int .i64 k] w (Ret (.tuple #[.agg #[.int .i64 a, .int .i64 b, .int .i64 c, .int .i64 k, .int .i64 u, .int .i64 o], .int .i64 0]) w) := choose_ok a b c d u o 3 k hi h hk (by omega) w
/-- Where the signs are plain. -/
theorem shown_flat (a b c d u o cp : Int) (h : rightB a b c d u o = true) (hn : ¬ (lineB a b c d u o = true ∧ 95 ≤ cp ∧ cp < 127)) (w : World) :
    Calls Tryd.prog 12 #[.agg #[.int .i64 a, .int .i64 b, .int .i64 c, .int .i64 d, .int .i64 u, .int .i64 o], .int .i64 cp] w (Ret (.tuple #[.int .i64 cp, .agg #[.int .i64 a, .int .i64 b, .int .i64 c, .int .i64 d, .int .i64 u, .int .i64 0], .int .i64 0]) w) := by
  cases hl : lineB a b c d u o
  · exact shown_plain a b c d u o cp h hl w
  · exact shown_out a b c d u o cp h hl (fun h2 => hn ⟨hl, h2⟩) w

set_option maxRecDepth 100000 in
set_option maxHeartbeats 20000000 in
theorem run_true (bl off len cap : Nat) (f0 f1 f2 f3 : Nat → Int) (w : World) (hg : SG w) (hlen : len ≤ 9223372036854775807) (hB : bl < w.heap.size)
    (r0 : ∀ i, i < len → 0 ≤ f0 i ∧ f0 i < 256) (r1 : ∀ i, i < len → 0 ≤ f1 i ∧ f1 i < 256) (r2 : ∀ i, i < len → 0 ≤ f2 i ∧ f2 i < 256)
    (c0 : ∀ i, i < len → w.cell? ⟨bl, off + i * 4, none⟩ = some (.int .u8 (f0 i))) (c1 : ∀ i, i < len → w.cell? ⟨bl, off + i * 4 + 1, none⟩ = some (.int .u8 (f1 i)))
    (c2 : ∀ i, i < len → w.cell? ⟨bl, off + i * 4 + 2, none⟩ = some (.int .u8 (f2 i))) (c3 : ∀ i, i < len → w.cell? ⟨bl, off + i * 4 + 3, none⟩ = some (.int .i64 (f3 i))) :
    Calls Tryd.prog 6 #[.slice (some ⟨bl, off, none⟩) len cap] w (Ret (.bool true) w) := by
  have Hr0 := Lib.hid r0
  have Hr1 := Lib.hid r1
  have Hr2 := Lib.hid r2
  have H0 := Lib.hid c0
  have H1 := Lib.hid c1
  have H2 := Lib.hid c2
  have H3 := Lib.hid c3
  have heq := arr_eq_at
  have heq2 : ∀ (w : World) (a b c e a' b' c' e' : Int), (Op.equalIn 10000 22 (.agg #[.int .i64 a, .int .i64 b, .int .i64 c, .int .i64 e]) (.agg #[.int .i64 a', .int .i64 b', .int .i64 c', .int .i64 e'])).run Tryd.prog w = .ok (a == a' && (b == b' && (c == c' && e == e'))) w := arr_eq 9998
  clear r0 r1 r2 c0 c1 c2 c3
  go_enter Tryd.func6, Tryd.ntmps6
  go_wp2_with fail
  refine (works_true _ (hg.grows (by repeat' (first | (with_reducible exact Grows.refl _) | (with_reducible refine Grows.alloc ?_ _) | (with_reducible refine Grows.drew ?_) | (with_reducible refine Grows.ext ?_ _ _))))).mono ?_
  rintro e w' ⟨rfl, h1, d1, rfl⟩
  go_wp2_with fail
  go_loopw [5, 6, 7] (fun us on i wr => ∃ (k : Nat) (a b c d u o : Int), k ≤ len ∧ k ≤ 40 ∧ i = .int .i64 k ∧ us = .int .i64 u ∧ on = .int .i64 o ∧ rightB a b c d u o = true ∧ Grows (((ext w h1 d1).alloc (.cells #[.int .i64 a, .int .i64 b, .int .i64 c, .int .i64 d, .int .i64 u, .int .i64 o] 24)).alloc (.cells #[.int .i64 a, .int .i64 b, .int .i64 c, .int .i64 d] 22)) wr) (fun _ _ i _ => 40 - (intOf i).toNat)
  case atStart => exact ⟨0, 0, 0, 0, 0, 0, 0, by omega, by omega, rfl, rfl, rfl, rfl, Grows.refl _⟩
  case round =>
    obtain ⟨k, a, b, c, d, u, o, hk, hk40, rfl, rfl, rfl, hr, h2, d2, rfl⟩ := hrel
    have hB1 : ∀ n, bl < w.heap.size + n := fun n => by omega
    by_cases hkl : k < len
    · by_cases hk4 : k < 40
      · have hl1 : decide ((k : Int) < (len : Int)) = true := by simp; omega
        have hl2 : decide ((k : Int) < 40) = true := by simp; omega
        have q0 := Hr0.out k hkl
        have q1 := Hr1.out k hkl
        have q2 := Hr2.out k hkl
        have k0 := H0.out k hkl
        have k1 := H1.out k hkl
        have k2 := H2.out k hkl
        have k3 := H3.out k hkl
        have hiu : In64 u := in64_01 (rightB_iff.1 hr).2.2.2.2.1
        have hq : f0 k % 5 = 0 ∨ f0 k % 5 = 1 ∨ f0 k % 5 = 2 ∨ f0 k % 5 = 3 ∨ f0 k % 5 = 4 := by omega
        rcases hq with hq | hq | hq | hq | hq
        · have hn : f1 k % 4 = 0 ∨ f1 k % 4 = 1 ∨ f1 k % 4 = 2 ∨ f1 k % 4 = 3 := by omega
          have hk2 : 0 ≤ f2 k % 2 ∧ f2 k % 2 ≤ 1 := by omega
          have Hk2 := Lib.hid hk2
          have hi2 := hiu
          rcases hn with hn | hn | hn | hn
          · as_aux_lemma =>
            have hr2 : rightB (f2 k % 2) b c d u o = true := (by rw [rightB_iff]; have hr0 := rightB_iff.1 hr; omega)
            go_wp2
            go_region
            go_wp2_with fail
            refine (choose_at0 _ _ _ _ _ _ _ hiu hr Hk2.out _).mono ?_
            rintro e w' ⟨rfl, h3, d3, rfl⟩
            go_wp2_with (go_at_call 10; refine (check_any _ _ _ _ _ _ hi2 _).mono ?_; rintro e w' ⟨rfl, h4, d4, rfl⟩)
            go_roundw
            case rel => exact ⟨k + 1, (f2 k % 2), b, c, d, u, o, by omega, by omega, by go_num, rfl, rfl, hr2, (by repeat' (first | (with_reducible exact Grows.refl _) | (with_reducible refine Grows.alloc ?_ _) | (with_reducible refine Grows.drew ?_) | (with_reducible refine Grows.ext ?_ _ _)))⟩
            case measure => simp [intOf]; omega
          · as_aux_lemma =>
            have hr2 : rightB a (f2 k % 2) c d u o = true := (by rw [rightB_iff]; have hr0 := rightB_iff.1 hr; omega)
            go_wp2
            go_region
            go_wp2_with fail
            refine (choose_at1 _ _ _ _ _ _ _ hiu hr Hk2.out _).mono ?_
            rintro e w' ⟨rfl, h3, d3, rfl⟩
            go_wp2_with (go_at_call 10; refine (check_any _ _ _ _ _ _ hi2 _).mono ?_; rintro e w' ⟨rfl, h4, d4, rfl⟩)
            go_roundw
            case rel => exact ⟨k + 1, a, (f2 k % 2), c, d, u, o, by omega, by omega, by go_num, rfl, rfl, hr2, (by repeat' (first | (with_reducible exact Grows.refl _) | (with_reducible refine Grows.alloc ?_ _) | (with_reducible refine Grows.drew ?_) | (with_reducible refine Grows.ext ?_ _ _)))⟩
            case measure => simp [intOf]; omega
          · as_aux_lemma =>
            have hr2 : rightB a b (f2 k % 2) d u o = true := (by rw [rightB_iff]; have hr0 := rightB_iff.1 hr; omega)
            go_wp2
            go_region
            go_wp2_with fail
            refine (choose_at2 _ _ _ _ _ _ _ hiu hr Hk2.out _).mono ?_
            rintro e w' ⟨rfl, h3, d3, rfl⟩
            go_wp2_with (go_at_call 10; refine (check_any _ _ _ _ _ _ hi2 _).mono ?_; rintro e w' ⟨rfl, h4, d4, rfl⟩)
            go_roundw
            case rel => exact ⟨k + 1, a, b, (f2 k % 2), d, u, o, by omega, by omega, by go_num, rfl, rfl, hr2, (by repeat' (first | (with_reducible exact Grows.refl _) | (with_reducible refine Grows.alloc ?_ _) | (with_reducible refine Grows.drew ?_) | (with_reducible refine Grows.ext ?_ _ _)))⟩
            case measure => simp [intOf]; omega
          · as_aux_lemma =>
            have hr2 : rightB a b c (f2 k % 2) u o = true := (by rw [rightB_iff]; have hr0 := rightB_iff.1 hr; omega)
            go_wp2
            go_region
            go_wp2_with fail
            refine (choose_at3 _ _ _ _ _ _ _ hiu hr Hk2.out _).mono ?_
            rintro e w' ⟨rfl, h3, d3, rfl⟩
            go_wp2_with (go_at_call 10; refine (check_any _ _ _ _ _ _ hi2 _).mono ?_; rintro e w' ⟨rfl, h4, d4, rfl⟩)
            go_roundw
            case rel => exact ⟨k + 1, a, b, c, (f2 k % 2), u, o, by omega, by omega, by go_num, rfl, rfl, hr2, (by repeat' (first | (with_reducible exact Grows.refl _) | (with_reducible refine Grows.alloc ?_ _) | (with_reducible refine Grows.drew ?_) | (with_reducible refine Grows.ext ?_ _ _)))⟩
            case measure => simp [intOf]; omega
        · as_aux_lemma =>
          have hr2 : rightB a b c d (f1 k % 2) o = true := (by rw [rightB_iff]; have hr0 := rightB_iff.1 hr; omega)
          have hi2 : In64 (f1 k % 2) := (by unfold In64; omega)
          have hk2 : 0 ≤ f1 k % 2 ∧ f1 k % 2 ≤ 1 := by omega
          go_wp2_with fail
          refine (lock_ok _ _ _ _ _ _ _ hiu hr hk2 _).mono ?_
          rintro e w' ⟨rfl, h3, d3, rfl⟩
          go_wp2_with (go_at_call 10; refine (check_any _ _ _ _ _ _ hi2 _).mono ?_; rintro e w' ⟨rfl, h4, d4, rfl⟩)
          go_roundw
          case rel => exact ⟨k + 1, a, b, c, d, f1 k % 2, o, by omega, by omega, by go_num, rfl, rfl, hr2, (by repeat' (first | (with_reducible exact Grows.refl _) | (with_reducible refine Grows.alloc ?_ _) | (with_reducible refine Grows.drew ?_) | (with_reducible refine Grows.ext ?_ _ _)))⟩
          case measure => simp [intOf]; omega
        · as_aux_lemma =>
          have hr2 : rightB a b c d u (2 + f1 k % 2) = true := (by rw [rightB_iff]; have hr0 := rightB_iff.1 hr; omega)
          have hi2 := hiu
          have hk2 : 2 ≤ 2 + f1 k % 2 ∧ 2 + f1 k % 2 ≤ 3 := by omega
          go_wp2_with fail
          refine (single_ok _ _ _ _ _ _ _ hiu hr hk2 _).mono ?_
          rintro e w' ⟨rfl, h3, d3, rfl⟩
          go_wp2_with (go_at_call 10; refine (check_any _ _ _ _ _ _ hi2 _).mono ?_; rintro e w' ⟨rfl, h4, d4, rfl⟩)
          go_roundw
          case rel => exact ⟨k + 1, a, b, c, d, u, 2 + f1 k % 2, by omega, by omega, by go_num, rfl, rfl, hr2, (by repeat' (first | (with_reducible exact Grows.refl _) | (with_reducible refine Grows.alloc ?_ _) | (with_reducible refine Grows.drew ?_) | (with_reducible refine Grows.ext ?_ _ _)))⟩
          case measure => simp [intOf]; omega
        · obtain ⟨-, -, -, -, hu, ho⟩ := rightB_iff.1 hr
          by_cases ho0 : o = 0
          · subst ho0
            have hgt : (#[Value.int .i64 a, .int .i64 b, .int .i64 c, .int .i64 d] : Array Value)[u.toNat]? = some (.int .i64 (gAt a b c d u)) := by
              rcases hu with rfl | rfl <;> rfl
            have hge : ∀ hh : u.toNat < ([Value.int .i64 a, Value.int .i64 b, Value.int .i64 c, Value.int .i64 d] : List Value).length, ([Value.int .i64 a, Value.int .i64 b, Value.int .i64 c, Value.int .i64 d] : List Value)[u.toNat]'hh = .int .i64 (gAt a b c d u) := by
              rcases hu with rfl | rfl <;> exact fun _ => rfl
            have b1 : 0 ≤ u := by omega
            have b2 : u < 4 := by omega
            have hln : lineB a b c d u 0 = (gAt a b c d u == 1) := by simp [lineB]
            clear hu ho
            cases hl : gAt a b c d u == 1
            · have Hf := Lib.hid (show ¬ (lineB a b c d u 0 = true ∧ 95 ≤ 88 + f1 k % 40 ∧ 88 + f1 k % 40 < 127) from fun h => by rw [hln, hl] at h; exact absurd h.1 (by simp))
              clear hln
              as_aux_lemma =>
              have hr2 : rightB a b c d u 0 = true := (by rw [rightB_iff]; have hr0 := rightB_iff.1 hr; omega)
              have hi2 := hiu
              have Hr := Lib.hid hr
              clear hr
              go_wp2_with fail
              refine (shown_flat _ _ _ _ _ _ _ Hr.out Hf.out _).mono ?_
              rintro e w' ⟨rfl, h3, d3, rfl⟩
              go_wp2_with fail
              refine (code_any _ _ (hg.grows (by repeat' (first | (with_reducible exact Grows.refl _) | (with_reducible refine Grows.alloc ?_ _) | (with_reducible refine Grows.drew ?_) | (with_reducible refine Grows.ext ?_ _ _))))).mono ?_
              rintro e w' ⟨rfl, h5, d5, rfl⟩
              go_wp2_with (go_at_call 10; refine (check_any _ _ _ _ _ _ hi2 _).mono ?_; rintro e w' ⟨rfl, h4, d4, rfl⟩)
              go_roundw
              case rel => exact ⟨k + 1, a, b, c, d, u, 0, by omega, by omega, by go_num, rfl, rfl, hr2, (by repeat' (first | (with_reducible exact Grows.refl _) | (with_reducible refine Grows.alloc ?_ _) | (with_reducible refine Grows.drew ?_) | (with_reducible refine Grows.ext ?_ _ _)))⟩
              case measure => simp [intOf]; omega
            · have Hl := Lib.hid (hln.trans hl)
              clear hln
              by_cases hcp : 95 ≤ 88 + f1 k % 40 ∧ 88 + f1 k % 40 < 127
              · obtain ⟨m, hm⟩ : ∃ m : Nat, 88 + f1 k % 40 = (m : Int) + 95 := ⟨(88 + f1 k % 40 - 95).toNat, by omega⟩
                have hm32 : m < 32 := by omega
                have e1 : decide (95 ≤ (m : Int) + 95) = true := by simp; omega
                have e2 : decide ((m : Int) + 95 ≤ 126) = true := by simp; omega
                clear hcp
                as_aux_lemma =>
                have hr2 : rightB a b c d u 0 = true := (by rw [rightB_iff]; have hr0 := rightB_iff.1 hr; omega)
                have hi2 := hiu
                have Hr := Lib.hid hr
                clear hr
                go_wp2_with fail
                refine (shown_line _ _ _ _ _ _ m Hr.out Hl.out hm32 _ (hg.grows (by repeat' (first | (with_reducible exact Grows.refl _) | (with_reducible refine Grows.alloc ?_ _) | (with_reducible refine Grows.drew ?_) | (with_reducible refine Grows.ext ?_ _ _))))).mono ?_
                rintro e w' ⟨rfl, h3, d3, rfl⟩
                go_wp2_with fail
                refine (code_at m hm32 _ (hg.grows (by repeat' (first | (with_reducible exact Grows.refl _) | (with_reducible refine Grows.alloc ?_ _) | (with_reducible refine Grows.drew ?_) | (with_reducible refine Grows.ext ?_ _ _))))).mono ?_
                rintro e w' ⟨rfl, h5, d5, rfl⟩
                go_wp2_with (go_at_call 10; refine (check_any _ _ _ _ _ _ hi2 _).mono ?_; rintro e w' ⟨rfl, h4, d4, rfl⟩)
                go_roundw
                case rel => exact ⟨k + 1, a, b, c, d, u, 0, by omega, by omega, by go_num, rfl, rfl, hr2, (by repeat' (first | (with_reducible exact Grows.refl _) | (with_reducible refine Grows.alloc ?_ _) | (with_reducible refine Grows.drew ?_) | (with_reducible refine Grows.ext ?_ _ _)))⟩
                case measure => simp [intOf]; omega
              · have Hf := Lib.hid (show ¬ (lineB a b c d u 0 = true ∧ 95 ≤ 88 + f1 k % 40 ∧ 88 + f1 k % 40 < 127) from fun h => hcp h.2)
                have e1 : decide (95 ≤ 88 + f1 k % 40) = false ∨ (decide (95 ≤ 88 + f1 k % 40) = true ∧ decide (88 + f1 k % 40 ≤ 126) = false) := by simp; omega
                clear hcp
                rcases e1 with e1 | ⟨e1, e2⟩
                · as_aux_lemma =>
                  have hr2 : rightB a b c d u 0 = true := (by rw [rightB_iff]; have hr0 := rightB_iff.1 hr; omega)
                  have hi2 := hiu
                  have Hr := Lib.hid hr
                  clear hr
                  go_wp2_with fail
                  refine (shown_flat _ _ _ _ _ _ _ Hr.out Hf.out _).mono ?_
                  rintro e w' ⟨rfl, h3, d3, rfl⟩
                  go_wp2_with fail
                  refine (code_any _ _ (hg.grows (by repeat' (first | (with_reducible exact Grows.refl _) | (with_reducible refine Grows.alloc ?_ _) | (with_reducible refine Grows.drew ?_) | (with_reducible refine Grows.ext ?_ _ _))))).mono ?_
                  rintro e w' ⟨rfl, h5, d5, rfl⟩
                  go_wp2_with (go_at_call 10; refine (check_any _ _ _ _ _ _ hi2 _).mono ?_; rintro e w' ⟨rfl, h4, d4, rfl⟩)
                  go_roundw
                  case rel => exact ⟨k + 1, a, b, c, d, u, 0, by omega, by omega, by go_num, rfl, rfl, hr2, (by repeat' (first | (with_reducible exact Grows.refl _) | (with_reducible refine Grows.alloc ?_ _) | (with_reducible refine Grows.drew ?_) | (with_reducible refine Grows.ext ?_ _ _)))⟩
                  case measure => simp [intOf]; omega
                · as_aux_lemma =>
                  have hr2 : rightB a b c d u 0 = true := (by rw [rightB_iff]; have hr0 := rightB_iff.1 hr; omega)
                  have hi2 := hiu
                  have Hr := Lib.hid hr
                  clear hr
                  go_wp2_with fail
                  refine (shown_flat _ _ _ _ _ _ _ Hr.out Hf.out _).mono ?_
                  rintro e w' ⟨rfl, h3, d3, rfl⟩
                  go_wp2_with fail
                  refine (code_any _ _ (hg.grows (by repeat' (first | (with_reducible exact Grows.refl _) | (with_reducible refine Grows.alloc ?_ _) | (with_reducible refine Grows.drew ?_) | (with_reducible refine Grows.ext ?_ _ _))))).mono ?_
                  rintro e w' ⟨rfl, h5, d5, rfl⟩
                  go_wp2_with (go_at_call 10; refine (check_any _ _ _ _ _ _ hi2 _).mono ?_; rintro e w' ⟨rfl, h4, d4, rfl⟩)
                  go_roundw
                  case rel => exact ⟨k + 1, a, b, c, d, u, 0, by omega, by omega, by go_num, rfl, rfl, hr2, (by repeat' (first | (with_reducible exact Grows.refl _) | (with_reducible refine Grows.alloc ?_ _) | (with_reducible refine Grows.drew ?_) | (with_reducible refine Grows.ext ?_ _ _)))⟩
                  case measure => simp [intOf]; omega
          · have hob : (o != 0) = true := by simpa using ho0
            have ho2 : o = 2 ∨ o = 3 := by omega
            have hgt : (#[Value.int .i64 a, .int .i64 b, .int .i64 c, .int .i64 d] : Array Value)[o.toNat]? = some (.int .i64 (gAt a b c d o)) := by
              rcases ho2 with rfl | rfl <;> rfl
            have hge : ∀ hh : o.toNat < ([Value.int .i64 a, Value.int .i64 b, Value.int .i64 c, Value.int .i64 d] : List Value).length, ([Value.int .i64 a, Value.int .i64 b, Value.int .i64 c, Value.int .i64 d] : List Value)[o.toNat]'hh = .int .i64 (gAt a b c d o) := by
              rcases ho2 with rfl | rfl <;> exact fun _ => rfl
            have b1 : 0 ≤ o := by omega
            have b2 : o < 4 := by omega
            have hln : lineB a b c d u o = (gAt a b c d o == 1) := by simp [lineB, ho0]
            clear hu ho ho0 ho2
            cases hl : gAt a b c d o == 1
            · have Hf := Lib.hid (show ¬ (lineB a b c d u o = true ∧ 95 ≤ 88 + f1 k % 40 ∧ 88 + f1 k % 40 < 127) from fun h => by rw [hln, hl] at h; exact absurd h.1 (by simp))
              clear hln
              as_aux_lemma =>
              have hr2 : rightB a b c d u 0 = true := (by rw [rightB_iff]; have hr0 := rightB_iff.1 hr; omega)
              have hi2 := hiu
              have Hr := Lib.hid hr
              clear hr
              go_wp2_with fail
              refine (shown_flat _ _ _ _ _ _ _ Hr.out Hf.out _).mono ?_
              rintro e w' ⟨rfl, h3, d3, rfl⟩
              go_wp2_with fail
              refine (code_any _ _ (hg.grows (by repeat' (first | (with_reducible exact Grows.refl _) | (with_reducible refine Grows.alloc ?_ _) | (with_reducible refine Grows.drew ?_) | (with_reducible refine Grows.ext ?_ _ _))))).mono ?_
              rintro e w' ⟨rfl, h5, d5, rfl⟩
              go_wp2_with (go_at_call 10; refine (check_any _ _ _ _ _ _ hi2 _).mono ?_; rintro e w' ⟨rfl, h4, d4, rfl⟩)
              go_roundw
              case rel => exact ⟨k + 1, a, b, c, d, u, 0, by omega, by omega, by go_num, rfl, rfl, hr2, (by repeat' (first | (with_reducible exact Grows.refl _) | (with_reducible refine Grows.alloc ?_ _) | (with_reducible refine Grows.drew ?_) | (with_reducible refine Grows.ext ?_ _ _)))⟩
              case measure => simp [intOf]; omega
            · have Hl := Lib.hid (hln.trans hl)
              clear hln
              by_cases hcp : 95 ≤ 88 + f1 k % 40 ∧ 88 + f1 k % 40 < 127
              · obtain ⟨m, hm⟩ : ∃ m : Nat, 88 + f1 k % 40 = (m : Int) + 95 := ⟨(88 + f1 k % 40 - 95).toNat, by omega⟩
                have hm32 : m < 32 := by omega
                have e1 : decide (95 ≤ (m : Int) + 95) = true := by simp; omega
                have e2 : decide ((m : Int) + 95 ≤ 126) = true := by simp; omega
                clear hcp
                as_aux_lemma =>
                have hr2 : rightB a b c d u 0 = true := (by rw [rightB_iff]; have hr0 := rightB_iff.1 hr; omega)
                have hi2 := hiu
                have Hr := Lib.hid hr
                clear hr
                go_wp2_with fail
                refine (shown_line _ _ _ _ _ _ m Hr.out Hl.out hm32 _ (hg.grows (by repeat' (first | (with_reducible exact Grows.refl _) | (with_reducible refine Grows.alloc ?_ _) | (with_reducible refine Grows.drew ?_) | (with_reducible refine Grows.ext ?_ _ _))))).mono ?_
                rintro e w' ⟨rfl, h3, d3, rfl⟩
                go_wp2_with fail
                refine (code_at m hm32 _ (hg.grows (by repeat' (first | (with_reducible exact Grows.refl _) | (with_reducible refine Grows.alloc ?_ _) | (with_reducible refine Grows.drew ?_) | (with_reducible refine Grows.ext ?_ _ _))))).mono ?_
                rintro e w' ⟨rfl, h5, d5, rfl⟩
                go_wp2_with (go_at_call 10; refine (check_any _ _ _ _ _ _ hi2 _).mono ?_; rintro e w' ⟨rfl, h4, d4, rfl⟩)
                go_roundw
                case rel => exact ⟨k + 1, a, b, c, d, u, 0, by omega, by omega, by go_num, rfl, rfl, hr2, (by repeat' (first | (with_reducible exact Grows.refl _) | (with_reducible refine Grows.alloc ?_ _) | (with_reducible refine Grows.drew ?_) | (with_reducible refine Grows.ext ?_ _ _)))⟩
                case measure => simp [intOf]; omega
              · have Hf := Lib.hid (show ¬ (lineB a b c d u o = true ∧ 95 ≤ 88 + f1 k % 40 ∧ 88 + f1 k % 40 < 127) from fun h => hcp h.2)
                have e1 : decide (95 ≤ 88 + f1 k % 40) = false ∨ (decide (95 ≤ 88 + f1 k % 40) = true ∧ decide (88 + f1 k % 40 ≤ 126) = false) := by simp; omega
                clear hcp
                rcases e1 with e1 | ⟨e1, e2⟩
                · as_aux_lemma =>
                  have hr2 : rightB a b c d u 0 = true := (by rw [rightB_iff]; have hr0 := rightB_iff.1 hr; omega)
                  have hi2 := hiu
                  have Hr := Lib.hid hr
                  clear hr
                  go_wp2_with fail
                  refine (shown_flat _ _ _ _ _ _ _ Hr.out Hf.out _).mono ?_
                  rintro e w' ⟨rfl, h3, d3, rfl⟩
                  go_wp2_with fail
                  refine (code_any _ _ (hg.grows (by repeat' (first | (with_reducible exact Grows.refl _) | (with_reducible refine Grows.alloc ?_ _) | (with_reducible refine Grows.drew ?_) | (with_reducible refine Grows.ext ?_ _ _))))).mono ?_
                  rintro e w' ⟨rfl, h5, d5, rfl⟩
                  go_wp2_with (go_at_call 10; refine (check_any _ _ _ _ _ _ hi2 _).mono ?_; rintro e w' ⟨rfl, h4, d4, rfl⟩)
                  go_roundw
                  case rel => exact ⟨k + 1, a, b, c, d, u, 0, by omega, by omega, by go_num, rfl, rfl, hr2, (by repeat' (first | (with_reducible exact Grows.refl _) | (with_reducible refine Grows.alloc ?_ _) | (with_reducible refine Grows.drew ?_) | (with_reducible refine Grows.ext ?_ _ _)))⟩
                  case measure => simp [intOf]; omega
                · as_aux_lemma =>
                  have hr2 : rightB a b c d u 0 = true := (by rw [rightB_iff]; have hr0 := rightB_iff.1 hr; omega)
                  have hi2 := hiu
                  have Hr := Lib.hid hr
                  clear hr
                  go_wp2_with fail
                  refine (shown_flat _ _ _ _ _ _ _ Hr.out Hf.out _).mono ?_
                  rintro e w' ⟨rfl, h3, d3, rfl⟩
                  go_wp2_with fail
                  refine (code_any _ _ (hg.grows (by repeat' (first | (with_reducible exact Grows.refl _) | (with_reducible refine Grows.alloc ?_ _) | (with_reducible refine Grows.drew ?_) | (with_reducible refine Grows.ext ?_ _ _))))).mono ?_
                  rintro e w' ⟨rfl, h5, d5, rfl⟩
                  go_wp2_with (go_at_call 10; refine (check_any _ _ _ _ _ _ hi2 _).mono ?_; rintro e w' ⟨rfl, h4, d4, rfl⟩)
                  go_roundw
                  case rel => exact ⟨k + 1, a, b, c, d, u, 0, by omega, by omega, by go_num, rfl, rfl, hr2, (by repeat' (first | (with_reducible exact Grows.refl _) | (with_reducible refine Grows.alloc ?_ _) | (with_reducible refine Grows.drew ?_) | (with_reducible refine Grows.ext ?_ _ _)))⟩
                  case measure => simp [intOf]; omega
        · obtain ⟨-, -, -, -, hu, ho⟩ := rightB_iff.1 hr
          by_cases ho0 : o = 0
          · subst ho0
            have hgt : (#[Value.int .i64 a, .int .i64 b, .int .i64 c, .int .i64 d] : Array Value)[u.toNat]? = some (.int .i64 (gAt a b c d u)) := by
              rcases hu with rfl | rfl <;> rfl
            have hge : ∀ hh : u.toNat < ([Value.int .i64 a, Value.int .i64 b, Value.int .i64 c, Value.int .i64 d] : List Value).length, ([Value.int .i64 a, Value.int .i64 b, Value.int .i64 c, Value.int .i64 d] : List Value)[u.toNat]'hh = .int .i64 (gAt a b c d u) := by
              rcases hu with rfl | rfl <;> exact fun _ => rfl
            have b1 : 0 ≤ u := by omega
            have b2 : u < 4 := by omega
            have hln : lineB a b c d u 0 = (gAt a b c d u == 1) := by simp [lineB]
            clear hu ho
            cases hl : gAt a b c d u == 1
            · have Hf := Lib.hid (show ¬ (lineB a b c d u 0 = true ∧ 95 ≤ f3 k ∧ f3 k < 127) from fun h => by rw [hln, hl] at h; exact absurd h.1 (by simp))
              clear hln
              as_aux_lemma =>
              have hr2 : rightB a b c d u 0 = true := (by rw [rightB_iff]; have hr0 := rightB_iff.1 hr; omega)
              have hi2 := hiu
              have Hr := Lib.hid hr
              clear hr
              go_wp2_with fail
              refine (shown_flat _ _ _ _ _ _ _ Hr.out Hf.out _).mono ?_
              rintro e w' ⟨rfl, h3, d3, rfl⟩
              go_wp2_with fail
              refine (code_any _ _ (hg.grows (by repeat' (first | (with_reducible exact Grows.refl _) | (with_reducible refine Grows.alloc ?_ _) | (with_reducible refine Grows.drew ?_) | (with_reducible refine Grows.ext ?_ _ _))))).mono ?_
              rintro e w' ⟨rfl, h5, d5, rfl⟩
              go_wp2_with (go_at_call 10; refine (check_any _ _ _ _ _ _ hi2 _).mono ?_; rintro e w' ⟨rfl, h4, d4, rfl⟩)
              go_roundw
              case rel => exact ⟨k + 1, a, b, c, d, u, 0, by omega, by omega, by go_num, rfl, rfl, hr2, (by repeat' (first | (with_reducible exact Grows.refl _) | (with_reducible refine Grows.alloc ?_ _) | (with_reducible refine Grows.drew ?_) | (with_reducible refine Grows.ext ?_ _ _)))⟩
              case measure => simp [intOf]; omega
            · have Hl := Lib.hid (hln.trans hl)
              clear hln
              by_cases hcp : 95 ≤ f3 k ∧ f3 k < 127
              · obtain ⟨m, hm⟩ : ∃ m : Nat, f3 k = (m : Int) + 95 := ⟨(f3 k - 95).toNat, by omega⟩
                have hm32 : m < 32 := by omega
                have e1 : decide (95 ≤ (m : Int) + 95) = true := by simp; omega
                have e2 : decide ((m : Int) + 95 ≤ 126) = true := by simp; omega
                clear hcp
                as_aux_lemma =>
                have hr2 : rightB a b c d u 0 = true := (by rw [rightB_iff]; have hr0 := rightB_iff.1 hr; omega)
                have hi2 := hiu
                have Hr := Lib.hid hr
                clear hr
                go_wp2_with fail
                refine (shown_line _ _ _ _ _ _ m Hr.out Hl.out hm32 _ (hg.grows (by repeat' (first | (with_reducible exact Grows.refl _) | (with_reducible refine Grows.alloc ?_ _) | (with_reducible refine Grows.drew ?_) | (with_reducible refine Grows.ext ?_ _ _))))).mono ?_
                rintro e w' ⟨rfl, h3, d3, rfl⟩
                go_wp2_with fail
                refine (code_at m hm32 _ (hg.grows (by repeat' (first | (with_reducible exact Grows.refl _) | (with_reducible refine Grows.alloc ?_ _) | (with_reducible refine Grows.drew ?_) | (with_reducible refine Grows.ext ?_ _ _))))).mono ?_
                rintro e w' ⟨rfl, h5, d5, rfl⟩
                go_wp2_with (go_at_call 10; refine (check_any _ _ _ _ _ _ hi2 _).mono ?_; rintro e w' ⟨rfl, h4, d4, rfl⟩)
                go_roundw
                case rel => exact ⟨k + 1, a, b, c, d, u, 0, by omega, by omega, by go_num, rfl, rfl, hr2, (by repeat' (first | (with_reducible exact Grows.refl _) | (with_reducible refine Grows.alloc ?_ _) | (with_reducible refine Grows.drew ?_) | (with_reducible refine Grows.ext ?_ _ _)))⟩
                case measure => simp [intOf]; omega
              · have Hf := Lib.hid (show ¬ (lineB a b c d u 0 = true ∧ 95 ≤ f3 k ∧ f3 k < 127) from fun h => hcp h.2)
                have e1 : decide (95 ≤ f3 k) = false ∨ (decide (95 ≤ f3 k) = true ∧ decide (f3 k ≤ 126) = false) := by simp; omega
                clear hcp
                rcases e1 with e1 | ⟨e1, e2⟩
                · as_aux_lemma =>
                  have hr2 : rightB a b c d u 0 = true := (by rw [rightB_iff]; have hr0 := rightB_iff.1 hr; omega)
                  have hi2 := hiu
                  have Hr := Lib.hid hr
                  clear hr
                  go_wp2_with fail
                  refine (shown_flat _ _ _ _ _ _ _ Hr.out Hf.out _).mono ?_
                  rintro e w' ⟨rfl, h3, d3, rfl⟩
                  go_wp2_with fail
                  refine (code_any _ _ (hg.grows (by repeat' (first | (with_reducible exact Grows.refl _) | (with_reducible refine Grows.alloc ?_ _) | (with_reducible refine Grows.drew ?_) | (with_reducible refine Grows.ext ?_ _ _))))).mono ?_
                  rintro e w' ⟨rfl, h5, d5, rfl⟩
                  go_wp2_with (go_at_call 10; refine (check_any _ _ _ _ _ _ hi2 _).mono ?_; rintro e w' ⟨rfl, h4, d4, rfl⟩)
                  go_roundw
                  case rel => exact ⟨k + 1, a, b, c, d, u, 0, by omega, by omega, by go_num, rfl, rfl, hr2, (by repeat' (first | (with_reducible exact Grows.refl _) | (with_reducible refine Grows.alloc ?_ _) | (with_reducible refine Grows.drew ?_) | (with_reducible refine Grows.ext ?_ _ _)))⟩
                  case measure => simp [intOf]; omega
                · as_aux_lemma =>
                  have hr2 : rightB a b c d u 0 = true := (by rw [rightB_iff]; have hr0 := rightB_iff.1 hr; omega)
                  have hi2 := hiu
                  have Hr := Lib.hid hr
                  clear hr
                  go_wp2_with fail
                  refine (shown_flat _ _ _ _ _ _ _ Hr.out Hf.out _).mono ?_
                  rintro e w' ⟨rfl, h3, d3, rfl⟩
                  go_wp2_with fail
                  refine (code_any _ _ (hg.grows (by repeat' (first | (with_reducible exact Grows.refl _) | (with_reducible refine Grows.alloc ?_ _) | (with_reducible refine Grows.drew ?_) | (with_reducible refine Grows.ext ?_ _ _))))).mono ?_
                  rintro e w' ⟨rfl, h5, d5, rfl⟩
                  go_wp2_with (go_at_call 10; refine (check_any _ _ _ _ _ _ hi2 _).mono ?_; rintro e w' ⟨rfl, h4, d4, rfl⟩)
                  go_roundw
                  case rel => exact ⟨k + 1, a, b, c, d, u, 0, by omega, by omega, by go_num, rfl, rfl, hr2, (by repeat' (first | (with_reducible exact Grows.refl _) | (with_reducible refine Grows.alloc ?_ _) | (with_reducible refine Grows.drew ?_) | (with_reducible refine Grows.ext ?_ _ _)))⟩
                  case measure => simp [intOf]; omega
          · have hob : (o != 0) = true := by simpa using ho0
            have ho2 : o = 2 ∨ o = 3 := by omega
            have hgt : (#[Value.int .i64 a, .int .i64 b, .int .i64 c, .int .i64 d] : Array Value)[o.toNat]? = some (.int .i64 (gAt a b c d o)) := by
              rcases ho2 with rfl | rfl <;> rfl
            have hge : ∀ hh : o.toNat < ([Value.int .i64 a, Value.int .i64 b, Value.int .i64 c, Value.int .i64 d] : List Value).length, ([Value.int .i64 a, Value.int .i64 b, Value.int .i64 c, Value.int .i64 d] : List Value)[o.toNat]'hh = .int .i64 (gAt a b c d o) := by
              rcases ho2 with rfl | rfl <;> exact fun _ => rfl
            have b1 : 0 ≤ o := by omega
            have b2 : o < 4 := by omega
            have hln : lineB a b c d u o = (gAt a b c d o == 1) := by simp [lineB, ho0]
            clear hu ho ho0 ho2
            cases hl : gAt a b c d o == 1
            · have Hf := Lib.hid (show ¬ (lineB a b c d u o = true ∧ 95 ≤ f3 k ∧ f3 k < 127) from fun h => by rw [hln, hl] at h; exact absurd h.1 (by simp))
              clear hln
              as_aux_lemma =>
              have hr2 : rightB a b c d u 0 = true := (by rw [rightB_iff]; have hr0 := rightB_iff.1 hr; omega)
              have hi2 := hiu
              have Hr := Lib.hid hr
              clear hr
              go_wp2_with fail
              refine (shown_flat _ _ _ _ _ _ _ Hr.out Hf.out _).mono ?_
              rintro e w' ⟨rfl, h3, d3, rfl⟩
              go_wp2_with fail
              refine (code_any _ _ (hg.grows (by repeat' (first | (with_reducible exact Grows.refl _) | (with_reducible refine Grows.alloc ?_ _) | (with_reducible refine Grows.drew ?_) | (with_reducible refine Grows.ext ?_ _ _))))).mono ?_
              rintro e w' ⟨rfl, h5, d5, rfl⟩
              go_wp2_with (go_at_call 10; refine (check_any _ _ _ _ _ _ hi2 _).mono ?_; rintro e w' ⟨rfl, h4, d4, rfl⟩)
              go_roundw
              case rel => exact ⟨k + 1, a, b, c, d, u, 0, by omega, by omega, by go_num, rfl, rfl, hr2, (by repeat' (first | (with_reducible exact Grows.refl _) | (with_reducible refine Grows.alloc ?_ _) | (with_reducible refine Grows.drew ?_) | (with_reducible refine Grows.ext ?_ _ _)))⟩
              case measure => simp [intOf]; omega
            · have Hl := Lib.hid (hln.trans hl)
              clear hln
              by_cases hcp : 95 ≤ f3 k ∧ f3 k < 127
              · obtain ⟨m, hm⟩ : ∃ m : Nat, f3 k = (m : Int) + 95 := ⟨(f3 k - 95).toNat, by omega⟩
                have hm32 : m < 32 := by omega
                have e1 : decide (95 ≤ (m : Int) + 95) = true := by simp; omega
                have e2 : decide ((m : Int) + 95 ≤ 126) = true := by simp; omega
                clear hcp
                as_aux_lemma =>
                have hr2 : rightB a b c d u 0 = true := (by rw [rightB_iff]; have hr0 := rightB_iff.1 hr; omega)
                have hi2 := hiu
                have Hr := Lib.hid hr
                clear hr
                go_wp2_with fail
                refine (shown_line _ _ _ _ _ _ m Hr.out Hl.out hm32 _ (hg.grows (by repeat' (first | (with_reducible exact Grows.refl _) | (with_reducible refine Grows.alloc ?_ _) | (with_reducible refine Grows.drew ?_) | (with_reducible refine Grows.ext ?_ _ _))))).mono ?_
                rintro e w' ⟨rfl, h3, d3, rfl⟩
                go_wp2_with fail
                refine (code_at m hm32 _ (hg.grows (by repeat' (first | (with_reducible exact Grows.refl _) | (with_reducible refine Grows.alloc ?_ _) | (with_reducible refine Grows.drew ?_) | (with_reducible refine Grows.ext ?_ _ _))))).mono ?_
                rintro e w' ⟨rfl, h5, d5, rfl⟩
                go_wp2_with (go_at_call 10; refine (check_any _ _ _ _ _ _ hi2 _).mono ?_; rintro e w' ⟨rfl, h4, d4, rfl⟩)
                go_roundw
                case rel => exact ⟨k + 1, a, b, c, d, u, 0, by omega, by omega, by go_num, rfl, rfl, hr2, (by repeat' (first | (with_reducible exact Grows.refl _) | (with_reducible refine Grows.alloc ?_ _) | (with_reducible refine Grows.drew ?_) | (with_reducible refine Grows.ext ?_ _ _)))⟩
                case measure => simp [intOf]; omega
              · have Hf := Lib.hid (show ¬ (lineB a b c d u o = true ∧ 95 ≤ f3 k ∧ f3 k < 127) from fun h => hcp h.2)
                have e1 : decide (95 ≤ f3 k) = false ∨ (decide (95 ≤ f3 k) = true ∧ decide (f3 k ≤ 126) = false) := by simp; omega
                clear hcp
                rcases e1 with e1 | ⟨e1, e2⟩
                · as_aux_lemma =>
                  have hr2 : rightB a b c d u 0 = true := (by rw [rightB_iff]; have hr0 := rightB_iff.1 hr; omega)
                  have hi2 := hiu
                  have Hr := Lib.hid hr
                  clear hr
                  go_wp2_with fail
                  refine (shown_flat _ _ _ _ _ _ _ Hr.out Hf.out _).mono ?_
                  rintro e w' ⟨rfl, h3, d3, rfl⟩
                  go_wp2_with fail
                  refine (code_any _ _ (hg.grows (by repeat' (first | (with_reducible exact Grows.refl _) | (with_reducible refine Grows.alloc ?_ _) | (with_reducible refine Grows.drew ?_) | (with_reducible refine Grows.ext ?_ _ _))))).mono ?_
                  rintro e w' ⟨rfl, h5, d5, rfl⟩
                  go_wp2_with (go_at_call 10; refine (check_any _ _ _ _ _ _ hi2 _).mono ?_; rintro e w' ⟨rfl, h4, d4, rfl⟩)
                  go_roundw
                  case rel => exact ⟨k + 1, a, b, c, d, u, 0, by omega, by omega, by go_num, rfl, rfl, hr2, (by repeat' (first | (with_reducible exact Grows.refl _) | (with_reducible refine Grows.alloc ?_ _) | (with_reducible refine Grows.drew ?_) | (with_reducible refine Grows.ext ?_ _ _)))⟩
                  case measure => simp [intOf]; omega
                · as_aux_lemma =>
                  have hr2 : rightB a b c d u 0 = true := (by rw [rightB_iff]; have hr0 := rightB_iff.1 hr; omega)
                  have hi2 := hiu
                  have Hr := Lib.hid hr
                  clear hr
                  go_wp2_with fail
                  refine (shown_flat _ _ _ _ _ _ _ Hr.out Hf.out _).mono ?_
                  rintro e w' ⟨rfl, h3, d3, rfl⟩
                  go_wp2_with fail
                  refine (code_any _ _ (hg.grows (by repeat' (first | (with_reducible exact Grows.refl _) | (with_reducible refine Grows.alloc ?_ _) | (with_reducible refine Grows.drew ?_) | (with_reducible refine Grows.ext ?_ _ _))))).mono ?_
                  rintro e w' ⟨rfl, h5, d5, rfl⟩
                  go_wp2_with (go_at_call 10; refine (check_any _ _ _ _ _ _ hi2 _).mono ?_; rintro e w' ⟨rfl, h4, d4, rfl⟩)
                  go_roundw
                  case rel => exact ⟨k + 1, a, b, c, d, u, 0, by omega, by omega, by go_num, rfl, rfl, hr2, (by repeat' (first | (with_reducible exact Grows.refl _) | (with_reducible refine Grows.alloc ?_ _) | (with_reducible refine Grows.drew ?_) | (with_reducible refine Grows.ext ?_ _ _)))⟩
                  case measure => simp [intOf]; omega
      · have hl2 : decide ((k : Int) < 40) = false := by simp; omega
        have hl1 : decide ((k : Int) < (len : Int)) = true := by simp; omega
        go_wp2
        go_ret
        exact ⟨rfl, (by repeat' (first | (with_reducible exact Grows.refl _) | (with_reducible refine Grows.alloc ?_ _) | (with_reducible refine Grows.drew ?_) | (with_reducible refine Grows.ext ?_ _ _)))⟩
    · have hl1 : decide ((k : Int) < (len : Int)) = false := by simp; omega
      go_wp2
      go_ret
      exact ⟨rfl, (by repeat' (first | (with_reducible exact Grows.refl _) | (with_reducible refine Grows.alloc ?_ _) | (with_reducible refine Grows.drew ?_) | (with_reducible refine Grows.ext ?_ _ _)))⟩
end Go.Proofs.YtegpdjiacehkfaaDoor
