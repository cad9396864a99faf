/-
  Walk: the law SetsKnown.
-/
import Derived.Test.YtegpdjiacehkfaaDoorRows
import Derived.Test.YtegpdjiacehkfaaDoorArr
import Derived.Test.YtegpdjiacehkfaaDoorLt
import Derived.Test.YtegpdjiacehkfaaDoorDefs
import Derived.Test.YtegpdjiacehkfaaDoorW1
import Derived.Test.YtegpdjiacehkfaaDoorW5
import Derived.Test.YtegpdjiacehkfaaDoorW7
import Derived.Test.YtegpdjiacehkfaaDoorW8
import Derived.Test.YtegpdjiacehkfaaDoorW9
import Derived.Test.YtegpdjiacehkfaaDoorW10
import Derived.Test.YtegpdjiacehkfaaDoorW11
import Derived.WalkKit
import Derived.WalkSpells
import Derived.WalkLawsBesides
import Derived.Handy
import Derived.Lib.Hide
import Derived.Deep.Light
import Derived.Deep.LoopGhost
import Derived.BigGuardPart
import Derived.Great.BuildSlice
import Derived.BigQuiet
import Derived.Deep.QuietTactic
namespace Go.Proofs.YtegpdjiacehkfaaDoor
open Go.RowKit


theorem lshown_at (k : Nat) (hk : k < 32) (w : World) (hg : SG w) : Calls Tryd.prog 24 #[.agg #[.int .i64 1, .int .i64 1, .int .i64 1, .int .i64 1, .int .i64 0, .int .i64 0], .int .i64 (95 + (k : Int))] w (Ret (.tuple #[.int .i64 (signAt k), .agg #[.int .i64 1, .int .i64 1, .int .i64 1, .int .i64 1, .int .i64 0, .int .i64 0]]) w) := by
  have h := lshown_yes 1 1 1 1 0 0 (95 + (k : Int)) rfl w hg
  have e : signOf 1 1 1 1 0 0 (95 + (k : Int)) = signAt k := by
    rw [Int.add_comm, ← lineOf_in hk]
    rfl
  rw [e] at h
  exact h

theorem signsA_def : (signsL.map (Value.int .i64)).toArray = signsA := rfl
theorem setRow_alloc (w : World) (c cs : Array Value) (t n : Nat) (hn : n = w.heap.size) : (w.alloc (.cells c t)).setRow n cs = w.alloc (.cells cs t) := by
  subst hn
  simp only [World.setRow, World.alloc]
  congr 1
  apply Array.ext_getElem?
  intro k
  simp only [Array.getElem?_modify, Array.getElem?_push]
  by_cases hk : w.heap.size = k
  · subst hk
    simp
  · have : ¬ k = w.heap.size := fun e => hk e.symm
    simp [hk, this]

set_option maxRecDepth 100000 in
set_option maxHeartbeats 4000000 in
theorem known_true (w : World) (hg : SG w) : Calls Tryd.prog 8 #[] w (Ret (.bool true) w) := by
  have heq := arr_eq_at
  go_enter Tryd.func8, Tryd.ntmps8
  go_wp2_with (first | (with_reducible refine wpList_buildFlatArrTo rfl 52 3 32 _ rfl .i64 signsL _ rfl Tryd.underlying52 ?b1 ?b2 ?b3 ?_; (case b1 => kernel_rfl); (case b2 => kernel_rfl); (case b3 => kernel_rfl); rw [signsA_def]) | (with_reducible refine wpList_store_rowTo rfl 52 _ _ rfl rfl (w.heap.size + 1) signsA rfl rfl 52 _ (heap_alloc2_new _ _ _) ?s1 ?s2 ?s3 ?_; (case s1 => kernel_rfl); (case s2 => kernel_rfl); (case s3 => kernel_rfl); rw [setRow_alloc _ _ _ _ _ (by simp)]))
  go_loopw [3] (fun i wr => ∃ k : Nat, k ≤ 32 ∧ i = .int .i64 k ∧ Grows ((w.alloc (.cells #[.int .i64 1, .int .i64 1, .int .i64 1, .int .i64 1, .int .i64 0, .int .i64 0] 24)).alloc (.cells signsA 52)) wr) (fun i _ => 32 - (intOf i).toNat)
  case atStart => exact ⟨0, by omega, rfl, Grows.refl _⟩
  case round =>
    obtain ⟨k, hk, rfl, h8, d8, rfl⟩ := hrel
    by_cases hkn : k = 32
    · subst hkn
      go_wp2_with fail
      refine (show Calls Tryd.prog 24 #[.agg #[.int .i64 1, .int .i64 1, .int .i64 1, .int .i64 1, .int .i64 0, .int .i64 0], .int .i64 (94)] _ (Ret (.tuple #[.int .i64 (94), .agg #[.int .i64 1, .int .i64 1, .int .i64 1, .int .i64 1, .int .i64 0, .int .i64 0]]) _) from lshown_yes 1 1 1 1 0 0 (94) rfl _ (hg.grows (by repeat' (first | (with_reducible exact Grows.refl _) | (with_reducible refine Grows.alloc ?_ _) | (with_reducible refine Grows.drew ?_) | (with_reducible refine Grows.ext ?_ _ _))))).mono ?_
      rintro e w' ⟨rfl, h1, d1, rfl⟩
      go_wp2_with fail
      refine (show Calls Tryd.prog 24 #[.agg #[.int .i64 1, .int .i64 1, .int .i64 1, .int .i64 1, .int .i64 0, .int .i64 0], .int .i64 (127)] _ (Ret (.tuple #[.int .i64 (127), .agg #[.int .i64 1, .int .i64 1, .int .i64 1, .int .i64 1, .int .i64 0, .int .i64 0]]) _) from lshown_yes 1 1 1 1 0 0 (127) rfl _ (hg.grows (by repeat' (first | (with_reducible exact Grows.refl _) | (with_reducible refine Grows.alloc ?_ _) | (with_reducible refine Grows.drew ?_) | (with_reducible refine Grows.ext ?_ _ _))))).mono ?_
      rintro e w' ⟨rfl, h2, d2, rfl⟩
      go_wp2_with fail
      refine (show Calls Tryd.prog 24 #[.agg #[.int .i64 1, .int .i64 1, .int .i64 1, .int .i64 1, .int .i64 0, .int .i64 0], .int .i64 (-9223372036854775808)] _ (Ret (.tuple #[.int .i64 (-9223372036854775808), .agg #[.int .i64 1, .int .i64 1, .int .i64 1, .int .i64 1, .int .i64 0, .int .i64 0]]) _) from lshown_yes 1 1 1 1 0 0 (-9223372036854775808) rfl _ (hg.grows (by repeat' (first | (with_reducible exact Grows.refl _) | (with_reducible refine Grows.alloc ?_ _) | (with_reducible refine Grows.drew ?_) | (with_reducible refine Grows.ext ?_ _ _))))).mono ?_
      rintro e w' ⟨rfl, h3, d3, rfl⟩
      go_wp2_with fail
      go_loopw [13] (fun i wr => ∃ j : Nat, j ≤ 6 ∧ i = .int .i64 j ∧ Grows (((ext ((ext ((ext ((w.alloc (.cells #[.int .i64 1, .int .i64 1, .int .i64 1, .int .i64 1, .int .i64 0, .int .i64 0] 24)).alloc (.cells signsA 52)) (h8 ++ h1) d1).alloc (.cells #[.int .i64 1, .int .i64 1, .int .i64 1, .int .i64 1, .int .i64 0, .int .i64 0] 24)) h2 d2).alloc (.cells #[.int .i64 1, .int .i64 1, .int .i64 1, .int .i64 1, .int .i64 0, .int .i64 0] 24)) h3 d3).alloc (.cells #[.int .i64 1, .int .i64 1, .int .i64 1, .int .i64 1, .int .i64 0, .int .i64 0] 24)).alloc (.cells #[.int .i64 2, .int .i64 0, .int .i64 0, .int .i64 0, .int .i64 0, .int .i64 0, .int .i64 0, .int .i64 0, .int .i64 0, .int .i64 (-1), .int .i64 0, .int .i64 0, .int .i64 0, .int .i64 0, .int .i64 0, .int .i64 0, .int .i64 2, .int .i64 0, .int .i64 0, .int .i64 0, .int .i64 0, .int .i64 0, .int .i64 (-1), .int .i64 0, .int .i64 0, .int .i64 0, .int .i64 0, .int .i64 0, .int .i64 0, .int .i64 1, .int .i64 0, .int .i64 0, .int .i64 0, .int .i64 0, .int .i64 0, .int .i64 4] 24)) wr) (fun i _ => 6 - (intOf i).toNat)
      case atStart => exact ⟨0, by omega, rfl, (by repeat' (first | (with_reducible exact Grows.refl _) | (with_reducible refine Grows.alloc ?_ _) | (with_reducible refine Grows.drew ?_) | (with_reducible refine Grows.ext ?_ _ _)))⟩
      case round =>
        obtain ⟨j, hj, rfl, h4, d4, rfl⟩ := hrel
        have hj : j = 0 ∨ j = 1 ∨ j = 2 ∨ j = 3 ∨ j = 4 ∨ j = 5 ∨ j = 6 := by omega
        rcases hj with rfl | rfl | rfl | rfl | rfl | rfl | rfl
        · as_aux_lemma =>
          go_wp2_with fail
          refine (shown_no 2 0 0 0 0 0 65 (by unfold In64; omega) rfl _).mono ?_
          rintro e w' ⟨rfl, h5, d5, rfl⟩
          go_wp2_with fail
          refine (choose_no 2 0 0 0 0 0 9 9 (by unfold In64; omega) rfl _).mono ?_
          rintro e w' ⟨rfl, h5, d5, rfl⟩
          go_wp2_with fail
          refine (lock_no 2 0 0 0 0 0 9 (by unfold In64; omega) rfl _).mono ?_
          rintro e w' ⟨rfl, h5, d5, rfl⟩
          go_wp2_with fail
          refine (single_no 2 0 0 0 0 0 9 (by unfold In64; omega) rfl _).mono ?_
          rintro e w' ⟨rfl, h5, d5, rfl⟩
          go_wp2_with fail
          refine (check_any 2 0 0 0 0 0 (by unfold In64; omega) _).mono ?_
          rintro e w' ⟨rfl, h5, d5, rfl⟩
          go_wp2_with fail
          go_roundw
          case rel => exact ⟨1, by omega, by go_num, (by repeat' (first | (with_reducible exact Grows.refl _) | (with_reducible refine Grows.alloc ?_ _) | (with_reducible refine Grows.drew ?_) | (with_reducible refine Grows.ext ?_ _ _)))⟩
          case measure => simp [intOf]
        · as_aux_lemma =>
          go_wp2_with fail
          refine (shown_no 0 0 0 (-1) 0 0 65 (by unfold In64; omega) rfl _).mono ?_
          rintro e w' ⟨rfl, h5, d5, rfl⟩
          go_wp2_with fail
          refine (choose_no 0 0 0 (-1) 0 0 9 9 (by unfold In64; omega) rfl _).mono ?_
          rintro e w' ⟨rfl, h5, d5, rfl⟩
          go_wp2_with fail
          refine (lock_no 0 0 0 (-1) 0 0 9 (by unfold In64; omega) rfl _).mono ?_
          rintro e w' ⟨rfl, h5, d5, rfl⟩
          go_wp2_with fail
          refine (single_no 0 0 0 (-1) 0 0 9 (by unfold In64; omega) rfl _).mono ?_
          rintro e w' ⟨rfl, h5, d5, rfl⟩
          go_wp2_with fail
          refine (check_any 0 0 0 (-1) 0 0 (by unfold In64; omega) _).mono ?_
          rintro e w' ⟨rfl, h5, d5, rfl⟩
          go_wp2_with fail
          go_roundw
          case rel => exact ⟨2, by omega, by go_num, (by repeat' (first | (with_reducible exact Grows.refl _) | (with_reducible refine Grows.alloc ?_ _) | (with_reducible refine Grows.drew ?_) | (with_reducible refine Grows.ext ?_ _ _)))⟩
          case measure => simp [intOf]
        · as_aux_lemma =>
          go_wp2_with fail
          refine (shown_no 0 0 0 0 2 0 65 (by unfold In64; omega) rfl _).mono ?_
          rintro e w' ⟨rfl, h5, d5, rfl⟩
          go_wp2_with fail
          refine (choose_no 0 0 0 0 2 0 9 9 (by unfold In64; omega) rfl _).mono ?_
          rintro e w' ⟨rfl, h5, d5, rfl⟩
          go_wp2_with fail
          refine (lock_no 0 0 0 0 2 0 9 (by unfold In64; omega) rfl _).mono ?_
          rintro e w' ⟨rfl, h5, d5, rfl⟩
          go_wp2_with fail
          refine (single_no 0 0 0 0 2 0 9 (by unfold In64; omega) rfl _).mono ?_
          rintro e w' ⟨rfl, h5, d5, rfl⟩
          go_wp2_with fail
          refine (check_any 0 0 0 0 2 0 (by unfold In64; omega) _).mono ?_
          rintro e w' ⟨rfl, h5, d5, rfl⟩
          go_wp2_with fail
          go_roundw
          case rel => exact ⟨3, by omega, by go_num, (by repeat' (first | (with_reducible exact Grows.refl _) | (with_reducible refine Grows.alloc ?_ _) | (with_reducible refine Grows.drew ?_) | (with_reducible refine Grows.ext ?_ _ _)))⟩
          case measure => simp [intOf]
        · as_aux_lemma =>
          go_wp2_with fail
          refine (shown_no 0 0 0 0 (-1) 0 65 (by unfold In64; omega) rfl _).mono ?_
          rintro e w' ⟨rfl, h5, d5, rfl⟩
          go_wp2_with fail
          refine (choose_no 0 0 0 0 (-1) 0 9 9 (by unfold In64; omega) rfl _).mono ?_
          rintro e w' ⟨rfl, h5, d5, rfl⟩
          go_wp2_with fail
          refine (lock_no 0 0 0 0 (-1) 0 9 (by unfold In64; omega) rfl _).mono ?_
          rintro e w' ⟨rfl, h5, d5, rfl⟩
          go_wp2_with fail
          refine (single_no 0 0 0 0 (-1) 0 9 (by unfold In64; omega) rfl _).mono ?_
          rintro e w' ⟨rfl, h5, d5, rfl⟩
          go_wp2_with fail
          refine (check_any 0 0 0 0 (-1) 0 (by unfold In64; omega) _).mono ?_
          rintro e w' ⟨rfl, h5, d5, rfl⟩
          go_wp2_with fail
          go_roundw
          case rel => exact ⟨4, by omega, by go_num, (by repeat' (first | (with_reducible exact Grows.refl _) | (with_reducible refine Grows.alloc ?_ _) | (with_reducible refine Grows.drew ?_) | (with_reducible refine Grows.ext ?_ _ _)))⟩
          case measure => simp [intOf]
        · as_aux_lemma =>
          go_wp2_with fail
          refine (shown_no 0 0 0 0 0 1 65 (by unfold In64; omega) rfl _).mono ?_
          rintro e w' ⟨rfl, h5, d5, rfl⟩
          go_wp2_with fail
          refine (choose_no 0 0 0 0 0 1 9 9 (by unfold In64; omega) rfl _).mono ?_
          rintro e w' ⟨rfl, h5, d5, rfl⟩
          go_wp2_with fail
          refine (lock_no 0 0 0 0 0 1 9 (by unfold In64; omega) rfl _).mono ?_
          rintro e w' ⟨rfl, h5, d5, rfl⟩
          go_wp2_with fail
          refine (single_no 0 0 0 0 0 1 9 (by unfold In64; omega) rfl _).mono ?_
          rintro e w' ⟨rfl, h5, d5, rfl⟩
          go_wp2_with fail
          refine (check_any 0 0 0 0 0 1 (by unfold In64; omega) _).mono ?_
          rintro e w' ⟨rfl, h5, d5, rfl⟩
          go_wp2_with fail
          go_roundw
          case rel => exact ⟨5, by omega, by go_num, (by repeat' (first | (with_reducible exact Grows.refl _) | (with_reducible refine Grows.alloc ?_ _) | (with_reducible refine Grows.drew ?_) | (with_reducible refine Grows.ext ?_ _ _)))⟩
          case measure => simp [intOf]
        · as_aux_lemma =>
          go_wp2_with fail
          refine (shown_no 0 0 0 0 0 4 65 (by unfold In64; omega) rfl _).mono ?_
          rintro e w' ⟨rfl, h5, d5, rfl⟩
          go_wp2_with fail
          refine (choose_no 0 0 0 0 0 4 9 9 (by unfold In64; omega) rfl _).mono ?_
          rintro e w' ⟨rfl, h5, d5, rfl⟩
          go_wp2_with fail
          refine (lock_no 0 0 0 0 0 4 9 (by unfold In64; omega) rfl _).mono ?_
          rintro e w' ⟨rfl, h5, d5, rfl⟩
          go_wp2_with fail
          refine (single_no 0 0 0 0 0 4 9 (by unfold In64; omega) rfl _).mono ?_
          rintro e w' ⟨rfl, h5, d5, rfl⟩
          go_wp2_with fail
          refine (check_any 0 0 0 0 0 4 (by unfold In64; omega) _).mono ?_
          rintro e w' ⟨rfl, h5, d5, rfl⟩
          go_wp2_with fail
          go_roundw
          case rel => exact ⟨6, by omega, by go_num, (by repeat' (first | (with_reducible exact Grows.refl _) | (with_reducible refine Grows.alloc ?_ _) | (with_reducible refine Grows.drew ?_) | (with_reducible refine Grows.ext ?_ _ _)))⟩
          case measure => simp [intOf]
        · as_aux_lemma =>
          go_wp2_with fail
          refine (lock_bad 1 1 1 1 0 0 (-1) (by unfold In64; omega) rfl (by omega) _).mono ?_
          rintro e w' ⟨rfl, h5, d5, rfl⟩
          go_wp2_with fail
          refine (single_bad 1 1 1 1 0 0 4 (by unfold In64; omega) rfl (by omega) _).mono ?_
          rintro e w' ⟨rfl, h6, d6, rfl⟩
          go_wp2_with fail
          refine (choose_kind 1 1 1 1 0 0 3 (-1) (by unfold In64; omega) rfl (by omega) _).mono ?_
          rintro e w' ⟨rfl, h7, d7, rfl⟩
          go_wp2_with fail
          refine (code_miss (-1) (by decide) _ (hg.grows (by repeat' (first | (with_reducible exact Grows.refl _) | (with_reducible refine Grows.alloc ?_ _) | (with_reducible refine Grows.drew ?_) | (with_reducible refine Grows.ext ?_ _ _))))).mono ?_
          rintro e w' ⟨rfl, h9, d9, rfl⟩
          go_wp2_with fail
          refine (works_true _ (hg.grows (by repeat' (first | (with_reducible exact Grows.refl _) | (with_reducible refine Grows.alloc ?_ _) | (with_reducible refine Grows.drew ?_) | (with_reducible refine Grows.ext ?_ _ _))))).mono ?_
          rintro e w' ⟨rfl, h0, d0, rfl⟩
          go_wp2_with fail
          go_ret
          exact ⟨rfl, (by repeat' (first | (with_reducible exact Grows.refl _) | (with_reducible refine Grows.alloc ?_ _) | (with_reducible refine Grows.drew ?_) | (with_reducible refine Grows.ext ?_ _ _)))⟩
    · as_aux_lemma =>
      have hk32 : k < 32 := by omega
      have hlt : decide ((k : Int) < 32) = true := by simp; omega
      have hsk := signsA_at k hk32
      go_wp2_with (go_at_call 24; refine (lshown_at k hk32 _ (hg.grows (by repeat' (first | (with_reducible exact Grows.refl _) | (with_reducible refine Grows.alloc ?_ _) | (with_reducible refine Grows.drew ?_) | (with_reducible refine Grows.ext ?_ _ _))))).mono ?_; rintro e w' ⟨rfl, h9, d9, rfl⟩)
      go_roundw
      case rel => exact ⟨k + 1, by omega, by go_num, (by repeat' (first | (with_reducible exact Grows.refl _) | (with_reducible refine Grows.alloc ?_ _) | (with_reducible refine Grows.drew ?_) | (with_reducible refine Grows.ext ?_ _ _)))⟩
      case measure => simp [intOf]; omega
end Go.Proofs.YtegpdjiacehkfaaDoor
