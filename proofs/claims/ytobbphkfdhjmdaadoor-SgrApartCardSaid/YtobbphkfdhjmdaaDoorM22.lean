/-
  The reference's Param: the attributes. The reference's Param: no attributes. The reference's Param: colours of the table. The reference's Param, whole.
-/
import Derived.Test.YtobbphkfdhjmdaaDoorRows
import Derived.Test.YtobbphkfdhjmdaaDoorM1
import Derived.Test.YtobbphkfdhjmdaaDoorM2
import Derived.Test.YtobbphkfdhjmdaaDoorM9
import Derived.Test.YtobbphkfdhjmdaaDoorM17
import Derived.WalkKit
import Derived.WalkSpells
import Derived.WalkLawsBesides
import Derived.Handy
import Derived.Laws.Rows
import Derived.Great.BuildSlice
import Derived.Deep.Heap
import Derived.IntWalk
import Derived.Lib.Hide
import Derived.Outline
import Derived.Deep.Light
import Derived.Deep.LoopGhost
import Derived.BigGuardPart
import Derived.BigQuiet
import Derived.Deep.QuietTactic
import Derived.Deep.RegionHeld3
import Derived.Deep.DeepCutAuto
namespace Go.Proofs.YtobbphkfdhjmdaaDoor
open Go.RowKit

set_option maxRecDepth 100000 in
set_option maxHeartbeats 8000000 in
theorem param39_1 (m : Int) (j : Nat) (hj : j < 8) (hz : ∀ k, k < j → (m == tabR.getD (k * 3 + 1) 0) = false) (hm : (m == tabR.getD (j * 3 + 1) 0) = true) (w : World) : Calls Tryd.prog 39 #[.agg #[.int .i64 39, .int .i64 1, .int .i64 m, .int .i64 0, .int .i64 0, .string ⟨#[]⟩]] w (ToldPost [tabR.getD (j * 3) 0] w) := by
  have HZ := Lib.hid hz
  have HM := Lib.hid hm
  clear hz hm
  go_enter Tryd.func39, Tryd.ntmps39
  go_wp2_with (go_at_call 75; (with_reducible refine (attrs75_any _).mono ?_); rintro e wt ⟨bt, rfl, ⟨ht, dt, rfl⟩, hbt, hct⟩)
  refine abs_worldM (fun W => Grows w W ∧ w.heap.size + 1 < W.heap.size ∧ W.cell? ⟨w.heap.size, 1, none⟩ = some (.int .i64 (1)) ∧ W.cell? ⟨w.heap.size, 2, none⟩ = some (.int .i64 (m)) ∧ W.cell? ⟨w.heap.size, 3, none⟩ = some (.int .i64 (0)) ∧ W.cell? ⟨w.heap.size, 4, none⟩ = some (.int .i64 (0)) ∧ W.cell? ⟨w.heap.size + 1, 0, none⟩ = some (.slice none 0 0) ∧ W.frozen? ⟨w.heap.size + 1, 0, none⟩ = false ∧ bt < W.heap.size ∧ ∀ i, i < 24 → W.cell? ⟨bt, i, none⟩ = some (.int .i64 (tabR.getD i 0))) ⟨(by repeat' (first | (with_reducible exact Grows.refl _) | (with_reducible refine Grows.alloc ?_ _) | (with_reducible refine Grows.drew ?_) | (with_reducible refine Grows.ext ?_ _ _))), by simp; omega, by simp [go_sem], by simp [go_sem], by simp [go_sem], by simp [go_sem], by simp [go_sem], by simp [go_sem], hbt, hct⟩ ?_
  clear hct hbt
  rintro W ⟨hG, hs, c1, c2, c3, c4, r0, r1, hbt, hct⟩
  obtain ⟨N2, hN2⟩ : ∃ N, N = w.heap.size + 1 := ⟨_, rfl⟩
  obtain ⟨N1, hN1⟩ : ∃ N, N = w.heap.size := ⟨_, rfl⟩
  have hle1 : w.heap.size ≤ N1 := by omega
  have hle2 : w.heap.size ≤ N2 := by omega
  have hne : ¬ N1 = N2 := by omega
  have hne2 : ¬ N2 = N1 := by omega
  rw [← hN2] at hs r0 r1
  rw [← hN1] at c1 c2 c3 c4
  simp only [← hN2]
  simp only [← hN1]
  have hs1 : N1 < W.heap.size := by omega
  clear hN1 hN2
  have HG := Lib.hid hG
  have C := Lib.hid (And.intro c1 (And.intro c2 (And.intro c3 (And.intro c4 (And.intro r0 r1)))))
  have HCT := Lib.hid hct
  clear hG c1 c2 c3 c4 r0 r1 hct
  go_loopw [4] (fun i wr' => ∃ (wv : World) (k : Nat), wv = wr' ∧ k ≤ j ∧ i = .int .i64 k ∧ Grows W wv) (fun i _ => j - (intOf i).toNat)
  case atStart => exact ⟨_, 0, rfl, Nat.zero_le _, rfl, Grows.refl _⟩
  case round =>
    obtain ⟨wa, k, rfl, hk, rfl, hGa⟩ := hrel
    have c1 := (hGa.cellOf (i := 1) hs1).trans C.out.1
    have c2 := (hGa.cellOf (i := 2) hs1).trans C.out.2.1
    have hsz := hGa.size
    have hs1' : N1 < wa.heap.size := by omega
    have hs2' : N2 < wa.heap.size := by omega
    have hbt' : bt < wa.heap.size := by omega
    have hk8 : k < 8 := by omega
    have e1 : decide ((k : Int) < 8) = true := by simp; omega
    by_cases hkj : k < j
    · have e2 := HZ.out k hkj
      have t0 := (hGa.cellOf (i := k * 3) hbt).trans (HCT.out (k * 3) (by omega))
      have t1 := (hGa.cellOf (i := k * 3 + 1) hbt).trans (HCT.out (k * 3 + 1) (by omega))
      have t2 := (hGa.cellOf (i := k * 3 + 2) hbt).trans (HCT.out (k * 3 + 2) (by omega))
      generalize hta : tabR.getD (k * 3) 0 = ta at *
      generalize htb : tabR.getD (k * 3 + 1) 0 = tb at *
      generalize htc : tabR.getD (k * 3 + 2) 0 = tc at *
      have HGa := Lib.hid hGa
      clear hGa hta htb htc
      go_wp2_with fail
      refine wp_region_grow (by kernel_rfl) (by kernel_rfl) ?_
      repeat (first | go_big_quiet_step ((fail)) | quiet_step ((fail)))
      refine wpQuiet_nil ?_
      rintro _ ⟨g185, rfl⟩
      go_wp2_with fail
      refine wp_region_grow (by kernel_rfl) (by kernel_rfl) ?_
      repeat (first | go_big_quiet_step ((fail)) | quiet_step ((fail)))
      refine wpQuiet_nil ?_
      rintro _ ⟨g186, rfl⟩
      go_wp2_with fail
      go_roundw
      case rel => exact ⟨_, k + 1, rfl, by omega, by go_num, (by repeat' (first | (with_reducible exact HGa.out) | (with_reducible refine Grows.alloc ?_ _) | (with_reducible refine Grows.drew ?_) | (with_reducible refine Grows.ext ?_ _ _)))⟩
      case measure => simp [intOf]; omega
    · obtain rfl : k = j := by omega
      have e2 := HM.out
      have t0 := (hGa.cellOf (i := k * 3) hbt).trans (HCT.out (k * 3) (by omega))
      have t1 := (hGa.cellOf (i := k * 3 + 1) hbt).trans (HCT.out (k * 3 + 1) (by omega))
      have t2 := (hGa.cellOf (i := k * 3 + 2) hbt).trans (HCT.out (k * 3 + 2) (by omega))
      generalize hta : tabR.getD (k * 3) 0 = ta at *
      generalize htb : tabR.getD (k * 3 + 1) 0 = tb at *
      generalize htc : tabR.getD (k * 3 + 2) 0 = tc at *
      have HGa := Lib.hid hGa
      clear hGa hta htb htc
      go_wp2_with fail
      refine wp_region_grow (by kernel_rfl) (by kernel_rfl) ?_
      repeat (first | go_big_quiet_step ((fail)) | quiet_step ((fail)))
      refine wpQuiet_nil ?_
      rintro _ ⟨g187, rfl⟩
      go_upto_region 6 with fail
      refine abs_worldM (fun W' => Grows wa W') (by repeat' (first | (with_reducible exact Grows.refl _) | (with_reducible refine Grows.drew ?_) | (with_reducible refine Grows.ext ?_ _ _))) ?_
      rintro wb hGb
      have s2 : N2 < wb.heap.size := Nat.lt_of_lt_of_le hs2' hGb.size
      have s0 : w.heap.size ≤ wb.heap.size := by omega
      have r0 := ((HGa.out.trans hGb).cellOf (i := 0) hs).trans C.out.2.2.2.2.1
      have r1 : wb.frozen? ⟨N2, 0, none⟩ = false := by
        obtain ⟨h, d, e⟩ := HGa.out.trans hGb
        rw [e]
        exact (ext_frozen _ _ _ _ _ hs).trans C.out.2.2.2.2.2
      have hG3 := HG.out.trans (HGa.out.trans hGb)
      have hbt2 := Nat.lt_of_lt_of_le hbt' hGb.size
      have t0' := (hGb.cellOf (i := k * 3) hbt').trans t0
      have HG3 := Lib.hid hG3
      clear hG3 hGb
      go_wp2_with fail
      refine bodyPost_ret (v := .agg #[.slice (some ⟨wb.heap.size, 0, none⟩) 1 1]) (by simp [results, Tryd.results39, go_sem, r0, s2]; try rfl) rfl ?_
      refine ⟨wb.heap.size, rfl, s0, row_at (by simp), (by repeat' (first | (with_reducible exact HG3.out) | (with_reducible refine Grows.alloc ?_ _) | (with_reducible refine Grows.setCell ?_ hle2 _) | (with_reducible refine Grows.drew ?_) | (with_reducible refine Grows.ext ?_ _ _)))⟩
set_option maxRecDepth 100000 in
set_option maxHeartbeats 8000000 in
theorem param39_2 (m : Int) (j : Nat) (hj : j < 8) (hz : ∀ k, k < j → (m == tabR.getD (k * 3 + 1) 0) = false) (hm : (m == tabR.getD (j * 3 + 1) 0) = true) (h3 : (m == 3) = false) (w : World) : Calls Tryd.prog 39 #[.agg #[.int .i64 39, .int .i64 2, .int .i64 m, .int .i64 0, .int .i64 0, .string ⟨#[]⟩]] w (ToldPost [tabR.getD (j * 3 + 2) 0] w) := by
  have HZ := Lib.hid hz
  have HM := Lib.hid hm
  clear hz hm
  go_enter Tryd.func39, Tryd.ntmps39
  go_wp2_with (go_at_call 75; (with_reducible refine (attrs75_any _).mono ?_); rintro e wt ⟨bt, rfl, ⟨ht, dt, rfl⟩, hbt, hct⟩)
  refine abs_worldM (fun W => Grows w W ∧ w.heap.size + 1 < W.heap.size ∧ W.cell? ⟨w.heap.size, 1, none⟩ = some (.int .i64 (2)) ∧ W.cell? ⟨w.heap.size, 2, none⟩ = some (.int .i64 (m)) ∧ W.cell? ⟨w.heap.size, 3, none⟩ = some (.int .i64 (0)) ∧ W.cell? ⟨w.heap.size, 4, none⟩ = some (.int .i64 (0)) ∧ W.cell? ⟨w.heap.size + 1, 0, none⟩ = some (.slice none 0 0) ∧ W.frozen? ⟨w.heap.size + 1, 0, none⟩ = false ∧ bt < W.heap.size ∧ ∀ i, i < 24 → W.cell? ⟨bt, i, none⟩ = some (.int .i64 (tabR.getD i 0))) ⟨(by repeat' (first | (with_reducible exact Grows.refl _) | (with_reducible refine Grows.alloc ?_ _) | (with_reducible refine Grows.drew ?_) | (with_reducible refine Grows.ext ?_ _ _))), by simp; omega, by simp [go_sem], by simp [go_sem], by simp [go_sem], by simp [go_sem], by simp [go_sem], by simp [go_sem], hbt, hct⟩ ?_
  clear hct hbt
  rintro W ⟨hG, hs, c1, c2, c3, c4, r0, r1, hbt, hct⟩
  obtain ⟨N2, hN2⟩ : ∃ N, N = w.heap.size + 1 := ⟨_, rfl⟩
  obtain ⟨N1, hN1⟩ : ∃ N, N = w.heap.size := ⟨_, rfl⟩
  have hle1 : w.heap.size ≤ N1 := by omega
  have hle2 : w.heap.size ≤ N2 := by omega
  have hne : ¬ N1 = N2 := by omega
  have hne2 : ¬ N2 = N1 := by omega
  rw [← hN2] at hs r0 r1
  rw [← hN1] at c1 c2 c3 c4
  simp only [← hN2]
  simp only [← hN1]
  have hs1 : N1 < W.heap.size := by omega
  clear hN1 hN2
  have HG := Lib.hid hG
  have C := Lib.hid (And.intro c1 (And.intro c2 (And.intro c3 (And.intro c4 (And.intro r0 r1)))))
  have HCT := Lib.hid hct
  clear hG c1 c2 c3 c4 r0 r1 hct
  go_loopw [4] (fun i wr' => ∃ (wv : World) (k : Nat), wv = wr' ∧ k ≤ j ∧ i = .int .i64 k ∧ Grows W wv) (fun i _ => j - (intOf i).toNat)
  case atStart => exact ⟨_, 0, rfl, Nat.zero_le _, rfl, Grows.refl _⟩
  case round =>
    obtain ⟨wa, k, rfl, hk, rfl, hGa⟩ := hrel
    have c1 := (hGa.cellOf (i := 1) hs1).trans C.out.1
    have c2 := (hGa.cellOf (i := 2) hs1).trans C.out.2.1
    have hsz := hGa.size
    have hs1' : N1 < wa.heap.size := by omega
    have hs2' : N2 < wa.heap.size := by omega
    have hbt' : bt < wa.heap.size := by omega
    have hk8 : k < 8 := by omega
    have e1 : decide ((k : Int) < 8) = true := by simp; omega
    by_cases hkj : k < j
    · have e2 := HZ.out k hkj
      have t0 := (hGa.cellOf (i := k * 3) hbt).trans (HCT.out (k * 3) (by omega))
      have t1 := (hGa.cellOf (i := k * 3 + 1) hbt).trans (HCT.out (k * 3 + 1) (by omega))
      have t2 := (hGa.cellOf (i := k * 3 + 2) hbt).trans (HCT.out (k * 3 + 2) (by omega))
      generalize hta : tabR.getD (k * 3) 0 = ta at *
      generalize htb : tabR.getD (k * 3 + 1) 0 = tb at *
      generalize htc : tabR.getD (k * 3 + 2) 0 = tc at *
      have HGa := Lib.hid hGa
      clear hGa hta htb htc
      go_wp2_with fail
      refine wp_region_grow (by kernel_rfl) (by kernel_rfl) ?_
      repeat (first | go_big_quiet_step ((fail)) | quiet_step ((fail)))
      refine wpQuiet_nil ?_
      rintro _ ⟨g188, rfl⟩
      go_wp2_with fail
      refine wp_region_grow (by kernel_rfl) (by kernel_rfl) ?_
      repeat (first | go_big_quiet_step ((fail)) | quiet_step ((fail)))
      refine wpQuiet_nil ?_
      rintro _ ⟨g189, rfl⟩
      go_wp2_with fail
      go_roundw
      case rel => exact ⟨_, k + 1, rfl, by omega, by go_num, (by repeat' (first | (with_reducible exact HGa.out) | (with_reducible refine Grows.alloc ?_ _) | (with_reducible refine Grows.drew ?_) | (with_reducible refine Grows.ext ?_ _ _)))⟩
      case measure => simp [intOf]; omega
    · obtain rfl : k = j := by omega
      have e2 := HM.out
      have t0 := (hGa.cellOf (i := k * 3) hbt).trans (HCT.out (k * 3) (by omega))
      have t1 := (hGa.cellOf (i := k * 3 + 1) hbt).trans (HCT.out (k * 3 + 1) (by omega))
      have t2 := (hGa.cellOf (i := k * 3 + 2) hbt).trans (HCT.out (k * 3 + 2) (by omega))
      generalize hta : tabR.getD (k * 3) 0 = ta at *
      generalize htb : tabR.getD (k * 3 + 1) 0 = tb at *
      generalize htc : tabR.getD (k * 3 + 2) 0 = tc at *
      have HGa := Lib.hid hGa
      clear hGa hta htb htc
      go_wp2_with fail
      refine wp_region_grow (by kernel_rfl) (by kernel_rfl) ?_
      repeat (first | go_big_quiet_step ((fail)) | quiet_step ((fail)))
      refine wpQuiet_nil ?_
      rintro _ ⟨g190, rfl⟩
      go_wp2_with fail
      refine wp_region_grow (by kernel_rfl) (by kernel_rfl) ?_
      repeat (first | go_big_quiet_step ((fail)) | quiet_step ((fail)))
      refine wpQuiet_nil ?_
      rintro _ ⟨g191, rfl⟩
      go_upto_region 8 with fail
      refine abs_worldM (fun W' => Grows wa W') (by repeat' (first | (with_reducible exact Grows.refl _) | (with_reducible refine Grows.drew ?_) | (with_reducible refine Grows.ext ?_ _ _))) ?_
      rintro wb hGb
      have s2 : N2 < wb.heap.size := Nat.lt_of_lt_of_le hs2' hGb.size
      have s0 : w.heap.size ≤ wb.heap.size := by omega
      have r0 := ((HGa.out.trans hGb).cellOf (i := 0) hs).trans C.out.2.2.2.2.1
      have r1 : wb.frozen? ⟨N2, 0, none⟩ = false := by
        obtain ⟨h, d, e⟩ := HGa.out.trans hGb
        rw [e]
        exact (ext_frozen _ _ _ _ _ hs).trans C.out.2.2.2.2.2
      have hG3 := HG.out.trans (HGa.out.trans hGb)
      have hbt2 := Nat.lt_of_lt_of_le hbt' hGb.size
      have t0' := (hGb.cellOf (i := k * 3 + 2) hbt').trans t2
      have HG3 := Lib.hid hG3
      clear hG3 hGb
      go_wp2_with fail
      refine bodyPost_ret (v := .agg #[.slice (some ⟨wb.heap.size, 0, none⟩) 1 1]) (by simp [results, Tryd.results39, go_sem, r0, s2]; try rfl) rfl ?_
      refine ⟨wb.heap.size, rfl, s0, row_at (by simp), (by repeat' (first | (with_reducible exact HG3.out) | (with_reducible refine Grows.alloc ?_ _) | (with_reducible refine Grows.setCell ?_ hle2 _) | (with_reducible refine Grows.drew ?_) | (with_reducible refine Grows.ext ?_ _ _)))⟩
set_option maxRecDepth 100000 in
set_option maxHeartbeats 8000000 in
theorem param39_both (w : World) : Calls Tryd.prog 39 #[.agg #[.int .i64 39, .int .i64 2, .int .i64 3, .int .i64 0, .int .i64 0, .string ⟨#[]⟩]] w (ToldPost [22] w) := by
  go_enter Tryd.func39, Tryd.ntmps39
  go_wp2_with (go_at_call 75; (with_reducible refine (attrs75_any _).mono ?_); rintro e wt ⟨bt, rfl, ⟨ht, dt, rfl⟩, hbt, hct⟩)
  refine abs_worldM (fun W => Grows w W ∧ w.heap.size + 1 < W.heap.size ∧ W.cell? ⟨w.heap.size, 1, none⟩ = some (.int .i64 (2)) ∧ W.cell? ⟨w.heap.size, 2, none⟩ = some (.int .i64 (3)) ∧ W.cell? ⟨w.heap.size, 3, none⟩ = some (.int .i64 (0)) ∧ W.cell? ⟨w.heap.size, 4, none⟩ = some (.int .i64 (0)) ∧ W.cell? ⟨w.heap.size + 1, 0, none⟩ = some (.slice none 0 0) ∧ W.frozen? ⟨w.heap.size + 1, 0, none⟩ = false ∧ bt < W.heap.size ∧ ∀ i, i < 24 → W.cell? ⟨bt, i, none⟩ = some (.int .i64 (tabR.getD i 0))) ⟨(by repeat' (first | (with_reducible exact Grows.refl _) | (with_reducible refine Grows.alloc ?_ _) | (with_reducible refine Grows.drew ?_) | (with_reducible refine Grows.ext ?_ _ _))), by simp; omega, by simp [go_sem], by simp [go_sem], by simp [go_sem], by simp [go_sem], by simp [go_sem], by simp [go_sem], hbt, hct⟩ ?_
  clear hct hbt
  rintro W ⟨hG, hs, c1, c2, c3, c4, r0, r1, hbt, hct⟩
  obtain ⟨N2, hN2⟩ : ∃ N, N = w.heap.size + 1 := ⟨_, rfl⟩
  obtain ⟨N1, hN1⟩ : ∃ N, N = w.heap.size := ⟨_, rfl⟩
  have hle1 : w.heap.size ≤ N1 := by omega
  have hle2 : w.heap.size ≤ N2 := by omega
  have hne : ¬ N1 = N2 := by omega
  have hne2 : ¬ N2 = N1 := by omega
  rw [← hN2] at hs r0 r1
  rw [← hN1] at c1 c2 c3 c4
  simp only [← hN2]
  simp only [← hN1]
  have hs1 : N1 < W.heap.size := by omega
  clear hN1 hN2
  have HG := Lib.hid hG
  have C := Lib.hid (And.intro c1 (And.intro c2 (And.intro c3 (And.intro c4 (And.intro r0 r1)))))
  have HCT := Lib.hid hct
  clear hG c1 c2 c3 c4 r0 r1 hct
  go_loopw [4] (fun i wr' => ∃ (wv : World) (k : Nat), wv = wr' ∧ k ≤ 0 ∧ i = .int .i64 k ∧ Grows W wv) (fun i _ => 0)
  case atStart => exact ⟨_, 0, rfl, Nat.zero_le _, rfl, Grows.refl _⟩
  case round =>
    obtain ⟨wa, k, rfl, hk, rfl, hGa⟩ := hrel
    have c1 := (hGa.cellOf (i := 1) hs1).trans C.out.1
    have c2 := (hGa.cellOf (i := 2) hs1).trans C.out.2.1
    have hsz := hGa.size
    have hs1' : N1 < wa.heap.size := by omega
    have hs2' : N2 < wa.heap.size := by omega
    have hbt' : bt < wa.heap.size := by omega
    obtain rfl : k = 0 := by omega
    have t1 : wa.cell? ⟨bt, 1, none⟩ = some (.int .i64 1) := (hGa.cellOf (i := 1) hbt).trans (HCT.out 1 (by omega))
    have t2 : wa.cell? ⟨bt, 2, none⟩ = some (.int .i64 22) := (hGa.cellOf (i := 2) hbt).trans (HCT.out 2 (by omega))
    have HGa := Lib.hid hGa
    clear hGa
    go_wp2_with fail
    refine wp_region_grow (by kernel_rfl) (by kernel_rfl) ?_
    repeat (first | go_big_quiet_step ((fail)) | quiet_step ((fail)))
    refine wpQuiet_nil ?_
    rintro _ ⟨g192, rfl⟩
    go_wp2_with fail
    refine wp_region_grow (by kernel_rfl) (by kernel_rfl) ?_
    repeat (first | go_big_quiet_step ((fail)) | quiet_step ((fail)))
    refine wpQuiet_nil ?_
    rintro _ ⟨g193, rfl⟩
    go_upto_region 8 with fail
    refine abs_worldM (fun W' => Grows wa W') (by repeat' (first | (with_reducible exact Grows.refl _) | (with_reducible refine Grows.drew ?_) | (with_reducible refine Grows.ext ?_ _ _))) ?_
    rintro wb hGb
    have s2 : N2 < wb.heap.size := Nat.lt_of_lt_of_le hs2' hGb.size
    have s0 : w.heap.size ≤ wb.heap.size := by omega
    have r0 := ((HGa.out.trans hGb).cellOf (i := 0) hs).trans C.out.2.2.2.2.1
    have r1 : wb.frozen? ⟨N2, 0, none⟩ = false := by
      obtain ⟨h, d, e⟩ := HGa.out.trans hGb
      rw [e]
      exact (ext_frozen _ _ _ _ _ hs).trans C.out.2.2.2.2.2
    have hG3 := HG.out.trans (HGa.out.trans hGb)
    have hbt2 := Nat.lt_of_lt_of_le hbt' hGb.size
    have t0' := (hGb.cellOf (i := 2) hbt').trans t2
    have HG3 := Lib.hid hG3
    clear hG3 hGb
    go_wp2_with fail
    refine bodyPost_ret (v := .agg #[.slice (some ⟨wb.heap.size, 0, none⟩) 1 1]) (by simp [results, Tryd.results39, go_sem, r0, s2]; try rfl) rfl ?_
    refine ⟨wb.heap.size, rfl, s0, row_at (by simp), (by repeat' (first | (with_reducible exact HG3.out) | (with_reducible refine Grows.alloc ?_ _) | (with_reducible refine Grows.setCell ?_ hle2 _) | (with_reducible refine Grows.drew ?_) | (with_reducible refine Grows.ext ?_ _ _)))⟩
end Go.Proofs.YtobbphkfdhjmdaaDoor

namespace Go.Proofs.YtobbphkfdhjmdaaDoor
open Go.RowKit

set_option maxRecDepth 100000 in
set_option maxHeartbeats 8000000 in
theorem param39_reset  (w : World) : Calls Tryd.prog 39 #[.agg #[.int .i64 39, .int .i64 0, .int .i64 0, .int .i64 0, .int .i64 0, .string ⟨#[]⟩]] w (ToldPost [0] w) := by
  go_enter Tryd.func39, Tryd.ntmps39
  go_wp2_with (go_at_call 75; (with_reducible refine (attrs75_any _).mono ?_); rintro e wt ⟨bt, rfl, ⟨ht, dt, rfl⟩, hbt, hct⟩)
  refine abs_worldM (fun W => Grows w W ∧ w.heap.size + 1 < W.heap.size ∧ W.cell? ⟨w.heap.size, 1, none⟩ = some (.int .i64 (0)) ∧ W.cell? ⟨w.heap.size, 2, none⟩ = some (.int .i64 (0)) ∧ W.cell? ⟨w.heap.size, 3, none⟩ = some (.int .i64 (0)) ∧ W.cell? ⟨w.heap.size, 4, none⟩ = some (.int .i64 (0)) ∧ W.cell? ⟨w.heap.size + 1, 0, none⟩ = some (.slice none 0 0) ∧ W.frozen? ⟨w.heap.size + 1, 0, none⟩ = false ∧ bt < W.heap.size ∧ ∀ i, i < 24 → W.cell? ⟨bt, i, none⟩ = some (.int .i64 (tabR.getD i 0))) ⟨(by repeat' (first | (with_reducible exact Grows.refl _) | (with_reducible refine Grows.alloc ?_ _) | (with_reducible refine Grows.drew ?_) | (with_reducible refine Grows.ext ?_ _ _))), by simp; omega, by simp [go_sem], by simp [go_sem], by simp [go_sem], by simp [go_sem], by simp [go_sem], by simp [go_sem], hbt, hct⟩ ?_
  clear hct hbt
  rintro W ⟨hG, hs, c1, c2, c3, c4, r0, r1, hbt, hct⟩
  obtain ⟨N2, hN2⟩ : ∃ N, N = w.heap.size + 1 := ⟨_, rfl⟩
  obtain ⟨N1, hN1⟩ : ∃ N, N = w.heap.size := ⟨_, rfl⟩
  have hle1 : w.heap.size ≤ N1 := by omega
  have hle2 : w.heap.size ≤ N2 := by omega
  have hne : ¬ N1 = N2 := by omega
  have hne2 : ¬ N2 = N1 := by omega
  rw [← hN2] at hs r0 r1
  rw [← hN1] at c1 c2 c3 c4
  simp only [← hN2]
  simp only [← hN1]
  have hs1 : N1 < W.heap.size := by omega
  clear hN1 hN2
  have HG := Lib.hid hG
  have C := Lib.hid (And.intro c1 (And.intro c2 (And.intro c3 (And.intro c4 (And.intro r0 r1)))))
  have HCT := Lib.hid hct
  clear hG c1 c2 c3 c4 r0 r1 hct
  go_loopw [4] (fun i wr' => ∃ (wv : World) (k : Nat), wv = wr' ∧ k ≤ 8 ∧ i = .int .i64 k ∧ Grows W wv) (fun i _ => 8 - (intOf i).toNat)
  case atStart => exact ⟨_, 0, rfl, Nat.zero_le _, rfl, Grows.refl _⟩
  case round =>
    obtain ⟨wa, k, rfl, hk, rfl, hGa⟩ := hrel
    have c1 := (hGa.cellOf (i := 1) hs1).trans C.out.1
    have c2 := (hGa.cellOf (i := 2) hs1).trans C.out.2.1
    have hsz := hGa.size
    have hs1' : N1 < wa.heap.size := by omega
    have hs2' : N2 < wa.heap.size := by omega
    have hbt' : bt < wa.heap.size := by omega
    by_cases hk8 : k < 8
    · have e1 : decide ((k : Int) < 8) = true := by simp; omega
      have HGa := Lib.hid hGa
      clear hGa
      go_wp2_with fail
      refine wp_region_grow (by kernel_rfl) (by kernel_rfl) ?_
      repeat (first | go_big_quiet_step ((fail)) | quiet_step ((fail)))
      refine wpQuiet_nil ?_
      rintro _ ⟨g192, rfl⟩
      go_wp2_with fail
      refine wp_region_grow (by kernel_rfl) (by kernel_rfl) ?_
      repeat (first | go_big_quiet_step ((fail)) | quiet_step ((fail)))
      refine wpQuiet_nil ?_
      rintro _ ⟨g193, rfl⟩
      go_wp2_with fail
      go_roundw
      case rel => exact ⟨_, k + 1, rfl, by omega, by go_num, (by repeat' (first | (with_reducible exact HGa.out) | (with_reducible refine Grows.alloc ?_ _) | (with_reducible refine Grows.drew ?_) | (with_reducible refine Grows.ext ?_ _ _)))⟩
      case measure => simp [intOf]; omega
    · have e1 : decide ((k : Int) < 8) = false := by simp; omega
      have c3 := (hGa.cellOf (i := 3) hs1).trans C.out.2.2.1
      have c4 := (hGa.cellOf (i := 4) hs1).trans C.out.2.2.2.1
      have r0 := (hGa.cellOf (i := 0) hs).trans C.out.2.2.2.2.1
      have r1 : wa.frozen? ⟨N2, 0, none⟩ = false := by
        obtain ⟨h, d, e⟩ := hGa
        rw [e]
        exact (ext_frozen _ _ _ _ _ hs).trans C.out.2.2.2.2.2
      have s0 : w.heap.size ≤ wa.heap.size := by omega
      have s3 : N2 < wa.heap.size + 1 := by omega
      have HG3 := Lib.hid (HG.out.trans hGa)
      clear hGa
      go_wp2_with fail
      refine bodyPost_ret (v := .agg #[.slice (some ⟨wa.heap.size + 1, 0, none⟩) 1 1]) (by simp [results, Tryd.results39, go_sem, r0, hs2', s3]; try rfl) rfl ?_
      refine ⟨wa.heap.size + 1, rfl, by omega, row_at (by simp), (by repeat' (first | (with_reducible exact HG3.out) | (with_reducible refine Grows.alloc ?_ _) | (with_reducible refine Grows.setCell ?_ hle2 _) | (with_reducible refine Grows.drew ?_) | (with_reducible refine Grows.ext ?_ _ _)))⟩
set_option maxRecDepth 100000 in
set_option maxHeartbeats 8000000 in
theorem param39_line  (w : World) : Calls Tryd.prog 39 #[.agg #[.int .i64 39, .int .i64 3, .int .i64 1, .int .i64 0, .int .i64 0, .string ⟨#[]⟩]] w (ToldPost [4] w) := by
  go_enter Tryd.func39, Tryd.ntmps39
  go_wp2_with (go_at_call 75; (with_reducible refine (attrs75_any _).mono ?_); rintro e wt ⟨bt, rfl, ⟨ht, dt, rfl⟩, hbt, hct⟩)
  refine abs_worldM (fun W => Grows w W ∧ w.heap.size + 1 < W.heap.size ∧ W.cell? ⟨w.heap.size, 1, none⟩ = some (.int .i64 (3)) ∧ W.cell? ⟨w.heap.size, 2, none⟩ = some (.int .i64 (1)) ∧ W.cell? ⟨w.heap.size, 3, none⟩ = some (.int .i64 (0)) ∧ W.cell? ⟨w.heap.size, 4, none⟩ = some (.int .i64 (0)) ∧ W.cell? ⟨w.heap.size + 1, 0, none⟩ = some (.slice none 0 0) ∧ W.frozen? ⟨w.heap.size + 1, 0, none⟩ = false ∧ bt < W.heap.size ∧ ∀ i, i < 24 → W.cell? ⟨bt, i, none⟩ = some (.int .i64 (tabR.getD i 0))) ⟨(by repeat' (first | (with_reducible exact Grows.refl _) | (with_reducible refine Grows.alloc ?_ _) | (with_reducible refine Grows.drew ?_) | (with_reducible refine Grows.ext ?_ _ _))), by simp; omega, by simp [go_sem], by simp [go_sem], by simp [go_sem], by simp [go_sem], by simp [go_sem], by simp [go_sem], hbt, hct⟩ ?_
  clear hct hbt
  rintro W ⟨hG, hs, c1, c2, c3, c4, r0, r1, hbt, hct⟩
  obtain ⟨N2, hN2⟩ : ∃ N, N = w.heap.size + 1 := ⟨_, rfl⟩
  obtain ⟨N1, hN1⟩ : ∃ N, N = w.heap.size := ⟨_, rfl⟩
  have hle1 : w.heap.size ≤ N1 := by omega
  have hle2 : w.heap.size ≤ N2 := by omega
  have hne : ¬ N1 = N2 := by omega
  have hne2 : ¬ N2 = N1 := by omega
  rw [← hN2] at hs r0 r1
  rw [← hN1] at c1 c2 c3 c4
  simp only [← hN2]
  simp only [← hN1]
  have hs1 : N1 < W.heap.size := by omega
  clear hN1 hN2
  have HG := Lib.hid hG
  have C := Lib.hid (And.intro c1 (And.intro c2 (And.intro c3 (And.intro c4 (And.intro r0 r1)))))
  have HCT := Lib.hid hct
  clear hG c1 c2 c3 c4 r0 r1 hct
  go_loopw [4] (fun i wr' => ∃ (wv : World) (k : Nat), wv = wr' ∧ k ≤ 8 ∧ i = .int .i64 k ∧ Grows W wv) (fun i _ => 8 - (intOf i).toNat)
  case atStart => exact ⟨_, 0, rfl, Nat.zero_le _, rfl, Grows.refl _⟩
  case round =>
    obtain ⟨wa, k, rfl, hk, rfl, hGa⟩ := hrel
    have c1 := (hGa.cellOf (i := 1) hs1).trans C.out.1
    have c2 := (hGa.cellOf (i := 2) hs1).trans C.out.2.1
    have hsz := hGa.size
    have hs1' : N1 < wa.heap.size := by omega
    have hs2' : N2 < wa.heap.size := by omega
    have hbt' : bt < wa.heap.size := by omega
    by_cases hk8 : k < 8
    · have e1 : decide ((k : Int) < 8) = true := by simp; omega
      have HGa := Lib.hid hGa
      clear hGa
      go_wp2_with fail
      refine wp_region_grow (by kernel_rfl) (by kernel_rfl) ?_
      repeat (first | go_big_quiet_step ((fail)) | quiet_step ((fail)))
      refine wpQuiet_nil ?_
      rintro _ ⟨g194, rfl⟩
      go_wp2_with fail
      refine wp_region_grow (by kernel_rfl) (by kernel_rfl) ?_
      repeat (first | go_big_quiet_step ((fail)) | quiet_step ((fail)))
      refine wpQuiet_nil ?_
      rintro _ ⟨g195, rfl⟩
      go_wp2_with fail
      go_roundw
      case rel => exact ⟨_, k + 1, rfl, by omega, by go_num, (by repeat' (first | (with_reducible exact HGa.out) | (with_reducible refine Grows.alloc ?_ _) | (with_reducible refine Grows.drew ?_) | (with_reducible refine Grows.ext ?_ _ _)))⟩
      case measure => simp [intOf]; omega
    · have e1 : decide ((k : Int) < 8) = false := by simp; omega
      have c3 := (hGa.cellOf (i := 3) hs1).trans C.out.2.2.1
      have c4 := (hGa.cellOf (i := 4) hs1).trans C.out.2.2.2.1
      have r0 := (hGa.cellOf (i := 0) hs).trans C.out.2.2.2.2.1
      have r1 : wa.frozen? ⟨N2, 0, none⟩ = false := by
        obtain ⟨h, d, e⟩ := hGa
        rw [e]
        exact (ext_frozen _ _ _ _ _ hs).trans C.out.2.2.2.2.2
      have s0 : w.heap.size ≤ wa.heap.size := by omega
      have s3 : N2 < wa.heap.size + 1 := by omega
      have HG3 := Lib.hid (HG.out.trans hGa)
      clear hGa
      go_wp2_with fail
      refine bodyPost_ret (v := .agg #[.slice (some ⟨wa.heap.size + 1, 0, none⟩) 1 1]) (by simp [results, Tryd.results39, go_sem, r0, hs2', s3]; try rfl) rfl ?_
      refine ⟨wa.heap.size + 1, rfl, by omega, row_at (by simp), (by repeat' (first | (with_reducible exact HG3.out) | (with_reducible refine Grows.alloc ?_ _) | (with_reducible refine Grows.setCell ?_ hle2 _) | (with_reducible refine Grows.drew ?_) | (with_reducible refine Grows.ext ?_ _ _)))⟩
set_option maxRecDepth 100000 in
set_option maxHeartbeats 8000000 in
theorem param39_off  (w : World) : Calls Tryd.prog 39 #[.agg #[.int .i64 39, .int .i64 3, .int .i64 0, .int .i64 0, .int .i64 0, .string ⟨#[]⟩]] w (ToldPost [24] w) := by
  go_enter Tryd.func39, Tryd.ntmps39
  go_wp2_with (go_at_call 75; (with_reducible refine (attrs75_any _).mono ?_); rintro e wt ⟨bt, rfl, ⟨ht, dt, rfl⟩, hbt, hct⟩)
  refine abs_worldM (fun W => Grows w W ∧ w.heap.size + 1 < W.heap.size ∧ W.cell? ⟨w.heap.size, 1, none⟩ = some (.int .i64 (3)) ∧ W.cell? ⟨w.heap.size, 2, none⟩ = some (.int .i64 (0)) ∧ W.cell? ⟨w.heap.size, 3, none⟩ = some (.int .i64 (0)) ∧ W.cell? ⟨w.heap.size, 4, none⟩ = some (.int .i64 (0)) ∧ W.cell? ⟨w.heap.size + 1, 0, none⟩ = some (.slice none 0 0) ∧ W.frozen? ⟨w.heap.size + 1, 0, none⟩ = false ∧ bt < W.heap.size ∧ ∀ i, i < 24 → W.cell? ⟨bt, i, none⟩ = some (.int .i64 (tabR.getD i 0))) ⟨(by repeat' (first | (with_reducible exact Grows.refl _) | (with_reducible refine Grows.alloc ?_ _) | (with_reducible refine Grows.drew ?_) | (with_reducible refine Grows.ext ?_ _ _))), by simp; omega, by simp [go_sem], by simp [go_sem], by simp [go_sem], by simp [go_sem], by simp [go_sem], by simp [go_sem], hbt, hct⟩ ?_
  clear hct hbt
  rintro W ⟨hG, hs, c1, c2, c3, c4, r0, r1, hbt, hct⟩
  obtain ⟨N2, hN2⟩ : ∃ N, N = w.heap.size + 1 := ⟨_, rfl⟩
  obtain ⟨N1, hN1⟩ : ∃ N, N = w.heap.size := ⟨_, rfl⟩
  have hle1 : w.heap.size ≤ N1 := by omega
  have hle2 : w.heap.size ≤ N2 := by omega
  have hne : ¬ N1 = N2 := by omega
  have hne2 : ¬ N2 = N1 := by omega
  rw [← hN2] at hs r0 r1
  rw [← hN1] at c1 c2 c3 c4
  simp only [← hN2]
  simp only [← hN1]
  have hs1 : N1 < W.heap.size := by omega
  clear hN1 hN2
  have HG := Lib.hid hG
  have C := Lib.hid (And.intro c1 (And.intro c2 (And.intro c3 (And.intro c4 (And.intro r0 r1)))))
  have HCT := Lib.hid hct
  clear hG c1 c2 c3 c4 r0 r1 hct
  go_loopw [4] (fun i wr' => ∃ (wv : World) (k : Nat), wv = wr' ∧ k ≤ 8 ∧ i = .int .i64 k ∧ Grows W wv) (fun i _ => 8 - (intOf i).toNat)
  case atStart => exact ⟨_, 0, rfl, Nat.zero_le _, rfl, Grows.refl _⟩
  case round =>
    obtain ⟨wa, k, rfl, hk, rfl, hGa⟩ := hrel
    have c1 := (hGa.cellOf (i := 1) hs1).trans C.out.1
    have c2 := (hGa.cellOf (i := 2) hs1).trans C.out.2.1
    have hsz := hGa.size
    have hs1' : N1 < wa.heap.size := by omega
    have hs2' : N2 < wa.heap.size := by omega
    have hbt' : bt < wa.heap.size := by omega
    by_cases hk8 : k < 8
    · have e1 : decide ((k : Int) < 8) = true := by simp; omega
      have HGa := Lib.hid hGa
      clear hGa
      go_wp2_with fail
      refine wp_region_grow (by kernel_rfl) (by kernel_rfl) ?_
      repeat (first | go_big_quiet_step ((fail)) | quiet_step ((fail)))
      refine wpQuiet_nil ?_
      rintro _ ⟨g196, rfl⟩
      go_wp2_with fail
      refine wp_region_grow (by kernel_rfl) (by kernel_rfl) ?_
      repeat (first | go_big_quiet_step ((fail)) | quiet_step ((fail)))
      refine wpQuiet_nil ?_
      rintro _ ⟨g197, rfl⟩
      go_wp2_with fail
      go_roundw
      case rel => exact ⟨_, k + 1, rfl, by omega, by go_num, (by repeat' (first | (with_reducible exact HGa.out) | (with_reducible refine Grows.alloc ?_ _) | (with_reducible refine Grows.drew ?_) | (with_reducible refine Grows.ext ?_ _ _)))⟩
      case measure => simp [intOf]; omega
    · have e1 : decide ((k : Int) < 8) = false := by simp; omega
      have c3 := (hGa.cellOf (i := 3) hs1).trans C.out.2.2.1
      have c4 := (hGa.cellOf (i := 4) hs1).trans C.out.2.2.2.1
      have r0 := (hGa.cellOf (i := 0) hs).trans C.out.2.2.2.2.1
      have r1 : wa.frozen? ⟨N2, 0, none⟩ = false := by
        obtain ⟨h, d, e⟩ := hGa
        rw [e]
        exact (ext_frozen _ _ _ _ _ hs).trans C.out.2.2.2.2.2
      have s0 : w.heap.size ≤ wa.heap.size := by omega
      have s3 : N2 < wa.heap.size + 1 := by omega
      have HG3 := Lib.hid (HG.out.trans hGa)
      clear hGa
      go_wp2_with fail
      refine bodyPost_ret (v := .agg #[.slice (some ⟨wa.heap.size + 1, 0, none⟩) 1 1]) (by simp [results, Tryd.results39, go_sem, r0, hs2', s3]; try rfl) rfl ?_
      refine ⟨wa.heap.size + 1, rfl, by omega, row_at (by simp), (by repeat' (first | (with_reducible exact HG3.out) | (with_reducible refine Grows.alloc ?_ _) | (with_reducible refine Grows.setCell ?_ hle2 _) | (with_reducible refine Grows.drew ?_) | (with_reducible refine Grows.ext ?_ _ _)))⟩
set_option maxRecDepth 100000 in
set_option maxHeartbeats 8000000 in
theorem param39_under (m : Int) (e1 : (m == 1) = false) (e0 : (m == 0) = false) (w : World) : Calls Tryd.prog 39 #[.agg #[.int .i64 39, .int .i64 3, .int .i64 m, .int .i64 0, .int .i64 0, .string ⟨#[]⟩]] w (ToldPost [4, m] w) := by
  go_enter Tryd.func39, Tryd.ntmps39
  go_wp2_with (go_at_call 75; (with_reducible refine (attrs75_any _).mono ?_); rintro e wt ⟨bt, rfl, ⟨ht, dt, rfl⟩, hbt, hct⟩)
  refine abs_worldM (fun W => Grows w W ∧ w.heap.size + 1 < W.heap.size ∧ W.cell? ⟨w.heap.size, 1, none⟩ = some (.int .i64 (3)) ∧ W.cell? ⟨w.heap.size, 2, none⟩ = some (.int .i64 (m)) ∧ W.cell? ⟨w.heap.size, 3, none⟩ = some (.int .i64 (0)) ∧ W.cell? ⟨w.heap.size, 4, none⟩ = some (.int .i64 (0)) ∧ W.cell? ⟨w.heap.size + 1, 0, none⟩ = some (.slice none 0 0) ∧ W.frozen? ⟨w.heap.size + 1, 0, none⟩ = false ∧ bt < W.heap.size ∧ ∀ i, i < 24 → W.cell? ⟨bt, i, none⟩ = some (.int .i64 (tabR.getD i 0))) ⟨(by repeat' (first | (with_reducible exact Grows.refl _) | (with_reducible refine Grows.alloc ?_ _) | (with_reducible refine Grows.drew ?_) | (with_reducible refine Grows.ext ?_ _ _))), by simp; omega, by simp [go_sem], by simp [go_sem], by simp [go_sem], by simp [go_sem], by simp [go_sem], by simp [go_sem], hbt, hct⟩ ?_
  clear hct hbt
  rintro W ⟨hG, hs, c1, c2, c3, c4, r0, r1, hbt, hct⟩
  obtain ⟨N2, hN2⟩ : ∃ N, N = w.heap.size + 1 := ⟨_, rfl⟩
  obtain ⟨N1, hN1⟩ : ∃ N, N = w.heap.size := ⟨_, rfl⟩
  have hle1 : w.heap.size ≤ N1 := by omega
  have hle2 : w.heap.size ≤ N2 := by omega
  have hne : ¬ N1 = N2 := by omega
  have hne2 : ¬ N2 = N1 := by omega
  rw [← hN2] at hs r0 r1
  rw [← hN1] at c1 c2 c3 c4
  simp only [← hN2]
  simp only [← hN1]
  have hs1 : N1 < W.heap.size := by omega
  clear hN1 hN2
  have HG := Lib.hid hG
  have C := Lib.hid (And.intro c1 (And.intro c2 (And.intro c3 (And.intro c4 (And.intro r0 r1)))))
  have HCT := Lib.hid hct
  clear hG c1 c2 c3 c4 r0 r1 hct
  go_loopw [4] (fun i wr' => ∃ (wv : World) (k : Nat), wv = wr' ∧ k ≤ 8 ∧ i = .int .i64 k ∧ Grows W wv) (fun i _ => 8 - (intOf i).toNat)
  case atStart => exact ⟨_, 0, rfl, Nat.zero_le _, rfl, Grows.refl _⟩
  case round =>
    obtain ⟨wa, k, rfl, hk, rfl, hGa⟩ := hrel
    have c1 := (hGa.cellOf (i := 1) hs1).trans C.out.1
    have c2 := (hGa.cellOf (i := 2) hs1).trans C.out.2.1
    have hsz := hGa.size
    have hs1' : N1 < wa.heap.size := by omega
    have hs2' : N2 < wa.heap.size := by omega
    have hbt' : bt < wa.heap.size := by omega
    by_cases hk8 : k < 8
    · have e1 : decide ((k : Int) < 8) = true := by simp; omega
      have HGa := Lib.hid hGa
      clear hGa
      go_wp2_with fail
      refine wp_region_grow (by kernel_rfl) (by kernel_rfl) ?_
      repeat (first | go_big_quiet_step ((fail)) | quiet_step ((fail)))
      refine wpQuiet_nil ?_
      rintro _ ⟨g198, rfl⟩
      go_wp2_with fail
      refine wp_region_grow (by kernel_rfl) (by kernel_rfl) ?_
      repeat (first | go_big_quiet_step ((fail)) | quiet_step ((fail)))
      refine wpQuiet_nil ?_
      rintro _ ⟨g199, rfl⟩
      go_wp2_with fail
      go_roundw
      case rel => exact ⟨_, k + 1, rfl, by omega, by go_num, (by repeat' (first | (with_reducible exact HGa.out) | (with_reducible refine Grows.alloc ?_ _) | (with_reducible refine Grows.drew ?_) | (with_reducible refine Grows.ext ?_ _ _)))⟩
      case measure => simp [intOf]; omega
    · have e1 : decide ((k : Int) < 8) = false := by simp; omega
      have c3 := (hGa.cellOf (i := 3) hs1).trans C.out.2.2.1
      have c4 := (hGa.cellOf (i := 4) hs1).trans C.out.2.2.2.1
      have r0 := (hGa.cellOf (i := 0) hs).trans C.out.2.2.2.2.1
      have r1 : wa.frozen? ⟨N2, 0, none⟩ = false := by
        obtain ⟨h, d, e⟩ := hGa
        rw [e]
        exact (ext_frozen _ _ _ _ _ hs).trans C.out.2.2.2.2.2
      have s0 : w.heap.size ≤ wa.heap.size := by omega
      have s3 : N2 < wa.heap.size + 1 := by omega
      have HG3 := Lib.hid (HG.out.trans hGa)
      clear hGa
      go_wp2_with fail
      refine bodyPost_ret (v := .agg #[.slice (some ⟨wa.heap.size + 1, 0, none⟩) 2 2]) (by simp [results, Tryd.results39, go_sem, r0, hs2', s3]; try rfl) rfl ?_
      refine ⟨wa.heap.size + 1, rfl, by omega, row_at (by simp), (by repeat' (first | (with_reducible exact HG3.out) | (with_reducible refine Grows.alloc ?_ _) | (with_reducible refine Grows.setCell ?_ hle2 _) | (with_reducible refine Grows.drew ?_) | (with_reducible refine Grows.ext ?_ _ _)))⟩
set_option maxRecDepth 100000 in
set_option maxHeartbeats 8000000 in
theorem param39_none (n : Int) (hn0 : 4 ≤ n) (hn1 : n ≤ 6)  (w : World) : Calls Tryd.prog 39 #[.agg #[.int .i64 39, .int .i64 n, .int .i64 0, .int .i64 0, .int .i64 0, .string ⟨#[]⟩]] w (ToldPost [38 + 10 * (n - 4) + 1] w) := by
  have en0 : (n == 0) = false := by simp; omega
  have en1 : (n == 1) = false := by simp; omega
  have en2 : (n == 2) = false := by simp; omega
  have en3 : (n == 3) = false := by simp; omega
  go_enter Tryd.func39, Tryd.ntmps39
  go_wp2_with (go_at_call 75; (with_reducible refine (attrs75_any _).mono ?_); rintro e wt ⟨bt, rfl, ⟨ht, dt, rfl⟩, hbt, hct⟩)
  refine abs_worldM (fun W => Grows w W ∧ w.heap.size + 1 < W.heap.size ∧ W.cell? ⟨w.heap.size, 1, none⟩ = some (.int .i64 (n)) ∧ W.cell? ⟨w.heap.size, 2, none⟩ = some (.int .i64 (0)) ∧ W.cell? ⟨w.heap.size, 3, none⟩ = some (.int .i64 (0)) ∧ W.cell? ⟨w.heap.size, 4, none⟩ = some (.int .i64 (0)) ∧ W.cell? ⟨w.heap.size + 1, 0, none⟩ = some (.slice none 0 0) ∧ W.frozen? ⟨w.heap.size + 1, 0, none⟩ = false ∧ bt < W.heap.size ∧ ∀ i, i < 24 → W.cell? ⟨bt, i, none⟩ = some (.int .i64 (tabR.getD i 0))) ⟨(by repeat' (first | (with_reducible exact Grows.refl _) | (with_reducible refine Grows.alloc ?_ _) | (with_reducible refine Grows.drew ?_) | (with_reducible refine Grows.ext ?_ _ _))), by simp; omega, by simp [go_sem], by simp [go_sem], by simp [go_sem], by simp [go_sem], by simp [go_sem], by simp [go_sem], hbt, hct⟩ ?_
  clear hct hbt
  rintro W ⟨hG, hs, c1, c2, c3, c4, r0, r1, hbt, hct⟩
  obtain ⟨N2, hN2⟩ : ∃ N, N = w.heap.size + 1 := ⟨_, rfl⟩
  obtain ⟨N1, hN1⟩ : ∃ N, N = w.heap.size := ⟨_, rfl⟩
  have hle1 : w.heap.size ≤ N1 := by omega
  have hle2 : w.heap.size ≤ N2 := by omega
  have hne : ¬ N1 = N2 := by omega
  have hne2 : ¬ N2 = N1 := by omega
  rw [← hN2] at hs r0 r1
  rw [← hN1] at c1 c2 c3 c4
  simp only [← hN2]
  simp only [← hN1]
  have hs1 : N1 < W.heap.size := by omega
  clear hN1 hN2
  have HG := Lib.hid hG
  have C := Lib.hid (And.intro c1 (And.intro c2 (And.intro c3 (And.intro c4 (And.intro r0 r1)))))
  have HCT := Lib.hid hct
  clear hG c1 c2 c3 c4 r0 r1 hct
  go_loopw [4] (fun i wr' => ∃ (wv : World) (k : Nat), wv = wr' ∧ k ≤ 8 ∧ i = .int .i64 k ∧ Grows W wv) (fun i _ => 8 - (intOf i).toNat)
  case atStart => exact ⟨_, 0, rfl, Nat.zero_le _, rfl, Grows.refl _⟩
  case round =>
    obtain ⟨wa, k, rfl, hk, rfl, hGa⟩ := hrel
    have c1 := (hGa.cellOf (i := 1) hs1).trans C.out.1
    have c2 := (hGa.cellOf (i := 2) hs1).trans C.out.2.1
    have hsz := hGa.size
    have hs1' : N1 < wa.heap.size := by omega
    have hs2' : N2 < wa.heap.size := by omega
    have hbt' : bt < wa.heap.size := by omega
    by_cases hk8 : k < 8
    · have e1 : decide ((k : Int) < 8) = true := by simp; omega
      have HGa := Lib.hid hGa
      clear hGa
      go_wp2_with fail
      refine wp_region_grow (by kernel_rfl) (by kernel_rfl) ?_
      repeat (first | go_big_quiet_step ((fail)) | quiet_step ((fail)))
      refine wpQuiet_nil ?_
      rintro _ ⟨g200, rfl⟩
      go_wp2_with fail
      refine wp_region_grow (by kernel_rfl) (by kernel_rfl) ?_
      repeat (first | go_big_quiet_step ((fail)) | quiet_step ((fail)))
      refine wpQuiet_nil ?_
      rintro _ ⟨g201, rfl⟩
      go_wp2_with fail
      go_roundw
      case rel => exact ⟨_, k + 1, rfl, by omega, by go_num, (by repeat' (first | (with_reducible exact HGa.out) | (with_reducible refine Grows.alloc ?_ _) | (with_reducible refine Grows.drew ?_) | (with_reducible refine Grows.ext ?_ _ _)))⟩
      case measure => simp [intOf]; omega
    · have e1 : decide ((k : Int) < 8) = false := by simp; omega
      have c3 := (hGa.cellOf (i := 3) hs1).trans C.out.2.2.1
      have c4 := (hGa.cellOf (i := 4) hs1).trans C.out.2.2.2.1
      have r0 := (hGa.cellOf (i := 0) hs).trans C.out.2.2.2.2.1
      have r1 : wa.frozen? ⟨N2, 0, none⟩ = false := by
        obtain ⟨h, d, e⟩ := hGa
        rw [e]
        exact (ext_frozen _ _ _ _ _ hs).trans C.out.2.2.2.2.2
      have s0 : w.heap.size ≤ wa.heap.size := by omega
      have s3 : N2 < wa.heap.size + 1 := by omega
      have HG3 := Lib.hid (HG.out.trans hGa)
      clear hGa
      go_wp2_with fail
      refine bodyPost_ret (v := .agg #[.slice (some ⟨wa.heap.size + 1, 0, none⟩) 1 1]) (by simp [results, Tryd.results39, go_sem, r0, hs2', s3]; try rfl) rfl ?_
      refine ⟨wa.heap.size + 1, rfl, by omega, row_at (by simp), (by repeat' (first | (with_reducible exact HG3.out) | (with_reducible refine Grows.alloc ?_ _) | (with_reducible refine Grows.setCell ?_ hle2 _) | (with_reducible refine Grows.drew ?_) | (with_reducible refine Grows.ext ?_ _ _)))⟩
set_option maxRecDepth 100000 in
set_option maxHeartbeats 8000000 in
theorem param39_rgb (n c : Int) (hn0 : 4 ≤ n) (hn1 : n ≤ 6) (hc0 : 0 ≤ c) (hc1 : c ≤ 16777215) (w : World) : Calls Tryd.prog 39 #[.agg #[.int .i64 39, .int .i64 n, .int .i64 0, .int .i64 2, .int .i64 c, .string ⟨#[]⟩]] w (ToldPost [38 + 10 * (n - 4), 2, -1, c / 65536, c / 256 % 256, c % 256] w) := by
  have en0 : (n == 0) = false := by simp; omega
  have en1 : (n == 1) = false := by simp; omega
  have en2 : (n == 2) = false := by simp; omega
  have en3 : (n == 3) = false := by simp; omega
  go_enter Tryd.func39, Tryd.ntmps39
  go_wp2_with (go_at_call 75; (with_reducible refine (attrs75_any _).mono ?_); rintro e wt ⟨bt, rfl, ⟨ht, dt, rfl⟩, hbt, hct⟩)
  refine abs_worldM (fun W => Grows w W ∧ w.heap.size + 1 < W.heap.size ∧ W.cell? ⟨w.heap.size, 1, none⟩ = some (.int .i64 (n)) ∧ W.cell? ⟨w.heap.size, 2, none⟩ = some (.int .i64 (0)) ∧ W.cell? ⟨w.heap.size, 3, none⟩ = some (.int .i64 (2)) ∧ W.cell? ⟨w.heap.size, 4, none⟩ = some (.int .i64 (c)) ∧ W.cell? ⟨w.heap.size + 1, 0, none⟩ = some (.slice none 0 0) ∧ W.frozen? ⟨w.heap.size + 1, 0, none⟩ = false ∧ bt < W.heap.size ∧ ∀ i, i < 24 → W.cell? ⟨bt, i, none⟩ = some (.int .i64 (tabR.getD i 0))) ⟨(by repeat' (first | (with_reducible exact Grows.refl _) | (with_reducible refine Grows.alloc ?_ _) | (with_reducible refine Grows.drew ?_) | (with_reducible refine Grows.ext ?_ _ _))), by simp; omega, by simp [go_sem], by simp [go_sem], by simp [go_sem], by simp [go_sem], by simp [go_sem], by simp [go_sem], hbt, hct⟩ ?_
  clear hct hbt
  rintro W ⟨hG, hs, c1, c2, c3, c4, r0, r1, hbt, hct⟩
  obtain ⟨N2, hN2⟩ : ∃ N, N = w.heap.size + 1 := ⟨_, rfl⟩
  obtain ⟨N1, hN1⟩ : ∃ N, N = w.heap.size := ⟨_, rfl⟩
  have hle1 : w.heap.size ≤ N1 := by omega
  have hle2 : w.heap.size ≤ N2 := by omega
  have hne : ¬ N1 = N2 := by omega
  have hne2 : ¬ N2 = N1 := by omega
  rw [← hN2] at hs r0 r1
  rw [← hN1] at c1 c2 c3 c4
  simp only [← hN2]
  simp only [← hN1]
  have hs1 : N1 < W.heap.size := by omega
  clear hN1 hN2
  have HG := Lib.hid hG
  have C := Lib.hid (And.intro c1 (And.intro c2 (And.intro c3 (And.intro c4 (And.intro r0 r1)))))
  have HCT := Lib.hid hct
  clear hG c1 c2 c3 c4 r0 r1 hct
  go_loopw [4] (fun i wr' => ∃ (wv : World) (k : Nat), wv = wr' ∧ k ≤ 8 ∧ i = .int .i64 k ∧ Grows W wv) (fun i _ => 8 - (intOf i).toNat)
  case atStart => exact ⟨_, 0, rfl, Nat.zero_le _, rfl, Grows.refl _⟩
  case round =>
    obtain ⟨wa, k, rfl, hk, rfl, hGa⟩ := hrel
    have c1 := (hGa.cellOf (i := 1) hs1).trans C.out.1
    have c2 := (hGa.cellOf (i := 2) hs1).trans C.out.2.1
    have hsz := hGa.size
    have hs1' : N1 < wa.heap.size := by omega
    have hs2' : N2 < wa.heap.size := by omega
    have hbt' : bt < wa.heap.size := by omega
    by_cases hk8 : k < 8
    · have e1 : decide ((k : Int) < 8) = true := by simp; omega
      have HGa := Lib.hid hGa
      clear hGa
      go_wp2_with fail
      refine wp_region_grow (by kernel_rfl) (by kernel_rfl) ?_
      repeat (first | go_big_quiet_step ((fail)) | quiet_step ((fail)))
      refine wpQuiet_nil ?_
      rintro _ ⟨g202, rfl⟩
      go_wp2_with fail
      refine wp_region_grow (by kernel_rfl) (by kernel_rfl) ?_
      repeat (first | go_big_quiet_step ((fail)) | quiet_step ((fail)))
      refine wpQuiet_nil ?_
      rintro _ ⟨g203, rfl⟩
      go_wp2_with fail
      go_roundw
      case rel => exact ⟨_, k + 1, rfl, by omega, by go_num, (by repeat' (first | (with_reducible exact HGa.out) | (with_reducible refine Grows.alloc ?_ _) | (with_reducible refine Grows.drew ?_) | (with_reducible refine Grows.ext ?_ _ _)))⟩
      case measure => simp [intOf]; omega
    · have e1 : decide ((k : Int) < 8) = false := by simp; omega
      have c3 := (hGa.cellOf (i := 3) hs1).trans C.out.2.2.1
      have c4 := (hGa.cellOf (i := 4) hs1).trans C.out.2.2.2.1
      have r0 := (hGa.cellOf (i := 0) hs).trans C.out.2.2.2.2.1
      have r1 : wa.frozen? ⟨N2, 0, none⟩ = false := by
        obtain ⟨h, d, e⟩ := hGa
        rw [e]
        exact (ext_frozen _ _ _ _ _ hs).trans C.out.2.2.2.2.2
      have s0 : w.heap.size ≤ wa.heap.size := by omega
      have s3 : N2 < wa.heap.size + 1 := by omega
      have HG3 := Lib.hid (HG.out.trans hGa)
      clear hGa
      go_wp2_with fail
      refine bodyPost_ret (v := .agg #[.slice (some ⟨wa.heap.size + 1, 0, none⟩) 6 6]) (by simp [results, Tryd.results39, go_sem, r0, hs2', s3]; try rfl) rfl ?_
      refine ⟨wa.heap.size + 1, rfl, by omega, row_at (by simp), (by repeat' (first | (with_reducible exact HG3.out) | (with_reducible refine Grows.alloc ?_ _) | (with_reducible refine Grows.setCell ?_ hle2 _) | (with_reducible refine Grows.drew ?_) | (with_reducible refine Grows.ext ?_ _ _)))⟩
end Go.Proofs.YtobbphkfdhjmdaaDoor

namespace Go.Proofs.YtobbphkfdhjmdaaDoor
open Go.RowKit

set_option maxRecDepth 100000 in
set_option maxHeartbeats 8000000 in
theorem param39_eight (n c : Int) (hn0 : 4 ≤ n) (hn1 : n ≤ 6) (hk : n ≠ 6) (hc0 : 0 ≤ c) (hc1 : c < 8) (w : World) : Calls Tryd.prog 39 #[.agg #[.int .i64 39, .int .i64 n, .int .i64 0, .int .i64 1, .int .i64 c, .string ⟨#[]⟩]] w (ToldPost [38 + 10 * (n - 4) - 8 + c] w) := by
  have en0 : (n == 0) = false := by simp; omega
  have en1 : (n == 1) = false := by simp; omega
  have en2 : (n == 2) = false := by simp; omega
  have en3 : (n == 3) = false := by simp; omega
  have e6 : (n != 6) = true := by simpa using hk
  have d8 : decide (c < 8) = true := by simpa using hc1
  go_enter Tryd.func39, Tryd.ntmps39
  go_wp2_with (go_at_call 75; (with_reducible refine (attrs75_any _).mono ?_); rintro e wt ⟨bt, rfl, ⟨ht, dt, rfl⟩, hbt, hct⟩)
  refine abs_worldM (fun W => Grows w W ∧ w.heap.size + 1 < W.heap.size ∧ W.cell? ⟨w.heap.size, 1, none⟩ = some (.int .i64 (n)) ∧ W.cell? ⟨w.heap.size, 2, none⟩ = some (.int .i64 (0)) ∧ W.cell? ⟨w.heap.size, 3, none⟩ = some (.int .i64 (1)) ∧ W.cell? ⟨w.heap.size, 4, none⟩ = some (.int .i64 (c)) ∧ W.cell? ⟨w.heap.size + 1, 0, none⟩ = some (.slice none 0 0) ∧ W.frozen? ⟨w.heap.size + 1, 0, none⟩ = false ∧ bt < W.heap.size ∧ ∀ i, i < 24 → W.cell? ⟨bt, i, none⟩ = some (.int .i64 (tabR.getD i 0))) ⟨(by repeat' (first | (with_reducible exact Grows.refl _) | (with_reducible refine Grows.alloc ?_ _) | (with_reducible refine Grows.drew ?_) | (with_reducible refine Grows.ext ?_ _ _))), by simp; omega, by simp [go_sem], by simp [go_sem], by simp [go_sem], by simp [go_sem], by simp [go_sem], by simp [go_sem], hbt, hct⟩ ?_
  clear hct hbt
  rintro W ⟨hG, hs, c1, c2, c3, c4, r0, r1, hbt, hct⟩
  obtain ⟨N2, hN2⟩ : ∃ N, N = w.heap.size + 1 := ⟨_, rfl⟩
  obtain ⟨N1, hN1⟩ : ∃ N, N = w.heap.size := ⟨_, rfl⟩
  have hle1 : w.heap.size ≤ N1 := by omega
  have hle2 : w.heap.size ≤ N2 := by omega
  have hne : ¬ N1 = N2 := by omega
  have hne2 : ¬ N2 = N1 := by omega
  rw [← hN2] at hs r0 r1
  rw [← hN1] at c1 c2 c3 c4
  simp only [← hN2]
  simp only [← hN1]
  have hs1 : N1 < W.heap.size := by omega
  clear hN1 hN2
  have HG := Lib.hid hG
  have C := Lib.hid (And.intro c1 (And.intro c2 (And.intro c3 (And.intro c4 (And.intro r0 r1)))))
  have HCT := Lib.hid hct
  clear hG c1 c2 c3 c4 r0 r1 hct
  go_loopw [4] (fun i wr' => ∃ (wv : World) (k : Nat), wv = wr' ∧ k ≤ 8 ∧ i = .int .i64 k ∧ Grows W wv) (fun i _ => 8 - (intOf i).toNat)
  case atStart => exact ⟨_, 0, rfl, Nat.zero_le _, rfl, Grows.refl _⟩
  case round =>
    obtain ⟨wa, k, rfl, hk, rfl, hGa⟩ := hrel
    have c1 := (hGa.cellOf (i := 1) hs1).trans C.out.1
    have c2 := (hGa.cellOf (i := 2) hs1).trans C.out.2.1
    have hsz := hGa.size
    have hs1' : N1 < wa.heap.size := by omega
    have hs2' : N2 < wa.heap.size := by omega
    have hbt' : bt < wa.heap.size := by omega
    by_cases hk8 : k < 8
    · have e1 : decide ((k : Int) < 8) = true := by simp; omega
      have HGa := Lib.hid hGa
      clear hGa
      go_wp2_with fail
      refine wp_region_grow (by kernel_rfl) (by kernel_rfl) ?_
      repeat (first | go_big_quiet_step ((fail)) | quiet_step ((fail)))
      refine wpQuiet_nil ?_
      rintro _ ⟨g204, rfl⟩
      go_wp2_with fail
      refine wp_region_grow (by kernel_rfl) (by kernel_rfl) ?_
      repeat (first | go_big_quiet_step ((fail)) | quiet_step ((fail)))
      refine wpQuiet_nil ?_
      rintro _ ⟨g205, rfl⟩
      go_wp2_with fail
      go_roundw
      case rel => exact ⟨_, k + 1, rfl, by omega, by go_num, (by repeat' (first | (with_reducible exact HGa.out) | (with_reducible refine Grows.alloc ?_ _) | (with_reducible refine Grows.drew ?_) | (with_reducible refine Grows.ext ?_ _ _)))⟩
      case measure => simp [intOf]; omega
    · have e1 : decide ((k : Int) < 8) = false := by simp; omega
      have c3 := (hGa.cellOf (i := 3) hs1).trans C.out.2.2.1
      have c4 := (hGa.cellOf (i := 4) hs1).trans C.out.2.2.2.1
      have r0 := (hGa.cellOf (i := 0) hs).trans C.out.2.2.2.2.1
      have r1 : wa.frozen? ⟨N2, 0, none⟩ = false := by
        obtain ⟨h, d, e⟩ := hGa
        rw [e]
        exact (ext_frozen _ _ _ _ _ hs).trans C.out.2.2.2.2.2
      have s0 : w.heap.size ≤ wa.heap.size := by omega
      have s3 : N2 < wa.heap.size + 1 := by omega
      have HG3 := Lib.hid (HG.out.trans hGa)
      clear hGa
      go_wp2_with fail
      refine bodyPost_ret (v := .agg #[.slice (some ⟨wa.heap.size + 1, 0, none⟩) 1 1]) (by simp [results, Tryd.results39, go_sem, r0, hs2', s3]; try rfl) rfl ?_
      refine ⟨wa.heap.size + 1, rfl, by omega, row_at (by simp), (by repeat' (first | (with_reducible exact HG3.out) | (with_reducible refine Grows.alloc ?_ _) | (with_reducible refine Grows.setCell ?_ hle2 _) | (with_reducible refine Grows.drew ?_) | (with_reducible refine Grows.ext ?_ _ _)))⟩
set_option maxRecDepth 100000 in
set_option maxHeartbeats 8000000 in
theorem param39_six (n c : Int) (hn0 : 4 ≤ n) (hn1 : n ≤ 6) (hk : n ≠ 6) (hc0 : 8 ≤ c) (hc1 : c < 16) (w : World) : Calls Tryd.prog 39 #[.agg #[.int .i64 39, .int .i64 n, .int .i64 0, .int .i64 1, .int .i64 c, .string ⟨#[]⟩]] w (ToldPost [38 + 10 * (n - 4) + 44 + c] w) := by
  have en0 : (n == 0) = false := by simp; omega
  have en1 : (n == 1) = false := by simp; omega
  have en2 : (n == 2) = false := by simp; omega
  have en3 : (n == 3) = false := by simp; omega
  have e6 : (n != 6) = true := by simpa using hk
  have d8 : decide (c < 8) = false := by simp; omega
  have d16 : decide (c < 16) = true := by simpa using hc1
  go_enter Tryd.func39, Tryd.ntmps39
  go_wp2_with (go_at_call 75; (with_reducible refine (attrs75_any _).mono ?_); rintro e wt ⟨bt, rfl, ⟨ht, dt, rfl⟩, hbt, hct⟩)
  refine abs_worldM (fun W => Grows w W ∧ w.heap.size + 1 < W.heap.size ∧ W.cell? ⟨w.heap.size, 1, none⟩ = some (.int .i64 (n)) ∧ W.cell? ⟨w.heap.size, 2, none⟩ = some (.int .i64 (0)) ∧ W.cell? ⟨w.heap.size, 3, none⟩ = some (.int .i64 (1)) ∧ W.cell? ⟨w.heap.size, 4, none⟩ = some (.int .i64 (c)) ∧ W.cell? ⟨w.heap.size + 1, 0, none⟩ = some (.slice none 0 0) ∧ W.frozen? ⟨w.heap.size + 1, 0, none⟩ = false ∧ bt < W.heap.size ∧ ∀ i, i < 24 → W.cell? ⟨bt, i, none⟩ = some (.int .i64 (tabR.getD i 0))) ⟨(by repeat' (first | (with_reducible exact Grows.refl _) | (with_reducible refine Grows.alloc ?_ _) | (with_reducible refine Grows.drew ?_) | (with_reducible refine Grows.ext ?_ _ _))), by simp; omega, by simp [go_sem], by simp [go_sem], by simp [go_sem], by simp [go_sem], by simp [go_sem], by simp [go_sem], hbt, hct⟩ ?_
  clear hct hbt
  rintro W ⟨hG, hs, c1, c2, c3, c4, r0, r1, hbt, hct⟩
  obtain ⟨N2, hN2⟩ : ∃ N, N = w.heap.size + 1 := ⟨_, rfl⟩
  obtain ⟨N1, hN1⟩ : ∃ N, N = w.heap.size := ⟨_, rfl⟩
  have hle1 : w.heap.size ≤ N1 := by omega
  have hle2 : w.heap.size ≤ N2 := by omega
  have hne : ¬ N1 = N2 := by omega
  have hne2 : ¬ N2 = N1 := by omega
  rw [← hN2] at hs r0 r1
  rw [← hN1] at c1 c2 c3 c4
  simp only [← hN2]
  simp only [← hN1]
  have hs1 : N1 < W.heap.size := by omega
  clear hN1 hN2
  have HG := Lib.hid hG
  have C := Lib.hid (And.intro c1 (And.intro c2 (And.intro c3 (And.intro c4 (And.intro r0 r1)))))
  have HCT := Lib.hid hct
  clear hG c1 c2 c3 c4 r0 r1 hct
  go_loopw [4] (fun i wr' => ∃ (wv : World) (k : Nat), wv = wr' ∧ k ≤ 8 ∧ i = .int .i64 k ∧ Grows W wv) (fun i _ => 8 - (intOf i).toNat)
  case atStart => exact ⟨_, 0, rfl, Nat.zero_le _, rfl, Grows.refl _⟩
  case round =>
    obtain ⟨wa, k, rfl, hk, rfl, hGa⟩ := hrel
    have c1 := (hGa.cellOf (i := 1) hs1).trans C.out.1
    have c2 := (hGa.cellOf (i := 2) hs1).trans C.out.2.1
    have hsz := hGa.size
    have hs1' : N1 < wa.heap.size := by omega
    have hs2' : N2 < wa.heap.size := by omega
    have hbt' : bt < wa.heap.size := by omega
    by_cases hk8 : k < 8
    · have e1 : decide ((k : Int) < 8) = true := by simp; omega
      have HGa := Lib.hid hGa
      clear hGa
      go_wp2_with fail
      refine wp_region_grow (by kernel_rfl) (by kernel_rfl) ?_
      repeat (first | go_big_quiet_step ((fail)) | quiet_step ((fail)))
      refine wpQuiet_nil ?_
      rintro _ ⟨g206, rfl⟩
      go_wp2_with fail
      refine wp_region_grow (by kernel_rfl) (by kernel_rfl) ?_
      repeat (first | go_big_quiet_step ((fail)) | quiet_step ((fail)))
      refine wpQuiet_nil ?_
      rintro _ ⟨g207, rfl⟩
      go_wp2_with fail
      go_roundw
      case rel => exact ⟨_, k + 1, rfl, by omega, by go_num, (by repeat' (first | (with_reducible exact HGa.out) | (with_reducible refine Grows.alloc ?_ _) | (with_reducible refine Grows.drew ?_) | (with_reducible refine Grows.ext ?_ _ _)))⟩
      case measure => simp [intOf]; omega
    · have e1 : decide ((k : Int) < 8) = false := by simp; omega
      have c3 := (hGa.cellOf (i := 3) hs1).trans C.out.2.2.1
      have c4 := (hGa.cellOf (i := 4) hs1).trans C.out.2.2.2.1
      have r0 := (hGa.cellOf (i := 0) hs).trans C.out.2.2.2.2.1
      have r1 : wa.frozen? ⟨N2, 0, none⟩ = false := by
        obtain ⟨h, d, e⟩ := hGa
        rw [e]
        exact (ext_frozen _ _ _ _ _ hs).trans C.out.2.2.2.2.2
      have s0 : w.heap.size ≤ wa.heap.size := by omega
      have s3 : N2 < wa.heap.size + 1 := by omega
      have HG3 := Lib.hid (HG.out.trans hGa)
      clear hGa
      go_wp2_with fail
      refine bodyPost_ret (v := .agg #[.slice (some ⟨wa.heap.size + 1, 0, none⟩) 1 1]) (by simp [results, Tryd.results39, go_sem, r0, hs2', s3]; try rfl) rfl ?_
      refine ⟨wa.heap.size + 1, rfl, by omega, row_at (by simp), (by repeat' (first | (with_reducible exact HG3.out) | (with_reducible refine Grows.alloc ?_ _) | (with_reducible refine Grows.setCell ?_ hle2 _) | (with_reducible refine Grows.drew ?_) | (with_reducible refine Grows.ext ?_ _ _)))⟩
set_option maxRecDepth 100000 in
set_option maxHeartbeats 8000000 in
theorem param39_more (n c : Int) (hn0 : 4 ≤ n) (hn1 : n ≤ 6) (hk : n ≠ 6) (hc0 : 16 ≤ c) (hc1 : c ≤ 255) (w : World) : Calls Tryd.prog 39 #[.agg #[.int .i64 39, .int .i64 n, .int .i64 0, .int .i64 1, .int .i64 c, .string ⟨#[]⟩]] w (ToldPost [38 + 10 * (n - 4), 5, c] w) := by
  have en0 : (n == 0) = false := by simp; omega
  have en1 : (n == 1) = false := by simp; omega
  have en2 : (n == 2) = false := by simp; omega
  have en3 : (n == 3) = false := by simp; omega
  have e6 : (n != 6) = true := by simpa using hk
  have d8 : decide (c < 8) = false := by simp; omega
  have d16 : decide (c < 16) = false := by simp; omega
  go_enter Tryd.func39, Tryd.ntmps39
  go_wp2_with (go_at_call 75; (with_reducible refine (attrs75_any _).mono ?_); rintro e wt ⟨bt, rfl, ⟨ht, dt, rfl⟩, hbt, hct⟩)
  refine abs_worldM (fun W => Grows w W ∧ w.heap.size + 1 < W.heap.size ∧ W.cell? ⟨w.heap.size, 1, none⟩ = some (.int .i64 (n)) ∧ W.cell? ⟨w.heap.size, 2, none⟩ = some (.int .i64 (0)) ∧ W.cell? ⟨w.heap.size, 3, none⟩ = some (.int .i64 (1)) ∧ W.cell? ⟨w.heap.size, 4, none⟩ = some (.int .i64 (c)) ∧ W.cell? ⟨w.heap.size + 1, 0, none⟩ = some (.slice none 0 0) ∧ W.frozen? ⟨w.heap.size + 1, 0, none⟩ = false ∧ bt < W.heap.size ∧ ∀ i, i < 24 → W.cell? ⟨bt, i, none⟩ = some (.int .i64 (tabR.getD i 0))) ⟨(by repeat' (first | (with_reducible exact Grows.refl _) | (with_reducible refine Grows.alloc ?_ _) | (with_reducible refine Grows.drew ?_) | (with_reducible refine Grows.ext ?_ _ _))), by simp; omega, by simp [go_sem], by simp [go_sem], by simp [go_sem], by simp [go_sem], by simp [go_sem], by simp [go_sem], hbt, hct⟩ ?_
  clear hct hbt
  rintro W ⟨hG, hs, c1, c2, c3, c4, r0, r1, hbt, hct⟩
  obtain ⟨N2, hN2⟩ : ∃ N, N = w.heap.size + 1 := ⟨_, rfl⟩
  obtain ⟨N1, hN1⟩ : ∃ N, N = w.heap.size := ⟨_, rfl⟩
  have hle1 : w.heap.size ≤ N1 := by omega
  have hle2 : w.heap.size ≤ N2 := by omega
  have hne : ¬ N1 = N2 := by omega
  have hne2 : ¬ N2 = N1 := by omega
  rw [← hN2] at hs r0 r1
  rw [← hN1] at c1 c2 c3 c4
  simp only [← hN2]
  simp only [← hN1]
  have hs1 : N1 < W.heap.size := by omega
  clear hN1 hN2
  have HG := Lib.hid hG
  have C := Lib.hid (And.intro c1 (And.intro c2 (And.intro c3 (And.intro c4 (And.intro r0 r1)))))
  have HCT := Lib.hid hct
  clear hG c1 c2 c3 c4 r0 r1 hct
  go_loopw [4] (fun i wr' => ∃ (wv : World) (k : Nat), wv = wr' ∧ k ≤ 8 ∧ i = .int .i64 k ∧ Grows W wv) (fun i _ => 8 - (intOf i).toNat)
  case atStart => exact ⟨_, 0, rfl, Nat.zero_le _, rfl, Grows.refl _⟩
  case round =>
    obtain ⟨wa, k, rfl, hk, rfl, hGa⟩ := hrel
    have c1 := (hGa.cellOf (i := 1) hs1).trans C.out.1
    have c2 := (hGa.cellOf (i := 2) hs1).trans C.out.2.1
    have hsz := hGa.size
    have hs1' : N1 < wa.heap.size := by omega
    have hs2' : N2 < wa.heap.size := by omega
    have hbt' : bt < wa.heap.size := by omega
    by_cases hk8 : k < 8
    · have e1 : decide ((k : Int) < 8) = true := by simp; omega
      have HGa := Lib.hid hGa
      clear hGa
      go_wp2_with fail
      refine wp_region_grow (by kernel_rfl) (by kernel_rfl) ?_
      repeat (first | go_big_quiet_step ((fail)) | quiet_step ((fail)))
      refine wpQuiet_nil ?_
      rintro _ ⟨g208, rfl⟩
      go_wp2_with fail
      refine wp_region_grow (by kernel_rfl) (by kernel_rfl) ?_
      repeat (first | go_big_quiet_step ((fail)) | quiet_step ((fail)))
      refine wpQuiet_nil ?_
      rintro _ ⟨g209, rfl⟩
      go_wp2_with fail
      go_roundw
      case rel => exact ⟨_, k + 1, rfl, by omega, by go_num, (by repeat' (first | (with_reducible exact HGa.out) | (with_reducible refine Grows.alloc ?_ _) | (with_reducible refine Grows.drew ?_) | (with_reducible refine Grows.ext ?_ _ _)))⟩
      case measure => simp [intOf]; omega
    · have e1 : decide ((k : Int) < 8) = false := by simp; omega
      have c3 := (hGa.cellOf (i := 3) hs1).trans C.out.2.2.1
      have c4 := (hGa.cellOf (i := 4) hs1).trans C.out.2.2.2.1
      have r0 := (hGa.cellOf (i := 0) hs).trans C.out.2.2.2.2.1
      have r1 : wa.frozen? ⟨N2, 0, none⟩ = false := by
        obtain ⟨h, d, e⟩ := hGa
        rw [e]
        exact (ext_frozen _ _ _ _ _ hs).trans C.out.2.2.2.2.2
      have s0 : w.heap.size ≤ wa.heap.size := by omega
      have s3 : N2 < wa.heap.size + 1 := by omega
      have HG3 := Lib.hid (HG.out.trans hGa)
      clear hGa
      go_wp2_with fail
      refine bodyPost_ret (v := .agg #[.slice (some ⟨wa.heap.size + 1, 0, none⟩) 3 3]) (by simp [results, Tryd.results39, go_sem, r0, hs2', s3]; try rfl) rfl ?_
      refine ⟨wa.heap.size + 1, rfl, by omega, row_at (by simp), (by repeat' (first | (with_reducible exact HG3.out) | (with_reducible refine Grows.alloc ?_ _) | (with_reducible refine Grows.setCell ?_ hle2 _) | (with_reducible refine Grows.drew ?_) | (with_reducible refine Grows.ext ?_ _ _)))⟩
set_option maxRecDepth 100000 in
set_option maxHeartbeats 8000000 in
theorem param39_six6 (c : Int) (_hc0 : 0 ≤ c) (_hc1 : c ≤ 255) (w : World) : Calls Tryd.prog 39 #[.agg #[.int .i64 39, .int .i64 6, .int .i64 0, .int .i64 1, .int .i64 c, .string ⟨#[]⟩]] w (ToldPost [58, 5, c] w) := by
  go_enter Tryd.func39, Tryd.ntmps39
  go_wp2_with (go_at_call 75; (with_reducible refine (attrs75_any _).mono ?_); rintro e wt ⟨bt, rfl, ⟨ht, dt, rfl⟩, hbt, hct⟩)
  refine abs_worldM (fun W => Grows w W ∧ w.heap.size + 1 < W.heap.size ∧ W.cell? ⟨w.heap.size, 1, none⟩ = some (.int .i64 (6)) ∧ W.cell? ⟨w.heap.size, 2, none⟩ = some (.int .i64 (0)) ∧ W.cell? ⟨w.heap.size, 3, none⟩ = some (.int .i64 (1)) ∧ W.cell? ⟨w.heap.size, 4, none⟩ = some (.int .i64 (c)) ∧ W.cell? ⟨w.heap.size + 1, 0, none⟩ = some (.slice none 0 0) ∧ W.frozen? ⟨w.heap.size + 1, 0, none⟩ = false ∧ bt < W.heap.size ∧ ∀ i, i < 24 → W.cell? ⟨bt, i, none⟩ = some (.int .i64 (tabR.getD i 0))) ⟨(by repeat' (first | (with_reducible exact Grows.refl _) | (with_reducible refine Grows.alloc ?_ _) | (with_reducible refine Grows.drew ?_) | (with_reducible refine Grows.ext ?_ _ _))), by simp; omega, by simp [go_sem], by simp [go_sem], by simp [go_sem], by simp [go_sem], by simp [go_sem], by simp [go_sem], hbt, hct⟩ ?_
  clear hct hbt
  rintro W ⟨hG, hs, c1, c2, c3, c4, r0, r1, hbt, hct⟩
  obtain ⟨N2, hN2⟩ : ∃ N, N = w.heap.size + 1 := ⟨_, rfl⟩
  obtain ⟨N1, hN1⟩ : ∃ N, N = w.heap.size := ⟨_, rfl⟩
  have hle1 : w.heap.size ≤ N1 := by omega
  have hle2 : w.heap.size ≤ N2 := by omega
  have hne : ¬ N1 = N2 := by omega
  have hne2 : ¬ N2 = N1 := by omega
  rw [← hN2] at hs r0 r1
  rw [← hN1] at c1 c2 c3 c4
  simp only [← hN2]
  simp only [← hN1]
  have hs1 : N1 < W.heap.size := by omega
  clear hN1 hN2
  have HG := Lib.hid hG
  have C := Lib.hid (And.intro c1 (And.intro c2 (And.intro c3 (And.intro c4 (And.intro r0 r1)))))
  have HCT := Lib.hid hct
  clear hG c1 c2 c3 c4 r0 r1 hct
  go_loopw [4] (fun i wr' => ∃ (wv : World) (k : Nat), wv = wr' ∧ k ≤ 8 ∧ i = .int .i64 k ∧ Grows W wv) (fun i _ => 8 - (intOf i).toNat)
  case atStart => exact ⟨_, 0, rfl, Nat.zero_le _, rfl, Grows.refl _⟩
  case round =>
    obtain ⟨wa, k, rfl, hk, rfl, hGa⟩ := hrel
    have c1 := (hGa.cellOf (i := 1) hs1).trans C.out.1
    have c2 := (hGa.cellOf (i := 2) hs1).trans C.out.2.1
    have hsz := hGa.size
    have hs1' : N1 < wa.heap.size := by omega
    have hs2' : N2 < wa.heap.size := by omega
    have hbt' : bt < wa.heap.size := by omega
    by_cases hk8 : k < 8
    · have e1 : decide ((k : Int) < 8) = true := by simp; omega
      have HGa := Lib.hid hGa
      clear hGa
      go_wp2_with fail
      refine wp_region_grow (by kernel_rfl) (by kernel_rfl) ?_
      repeat (first | go_big_quiet_step ((fail)) | quiet_step ((fail)))
      refine wpQuiet_nil ?_
      rintro _ ⟨g210, rfl⟩
      go_wp2_with fail
      refine wp_region_grow (by kernel_rfl) (by kernel_rfl) ?_
      repeat (first | go_big_quiet_step ((fail)) | quiet_step ((fail)))
      refine wpQuiet_nil ?_
      rintro _ ⟨g211, rfl⟩
      go_wp2_with fail
      go_roundw
      case rel => exact ⟨_, k + 1, rfl, by omega, by go_num, (by repeat' (first | (with_reducible exact HGa.out) | (with_reducible refine Grows.alloc ?_ _) | (with_reducible refine Grows.drew ?_) | (with_reducible refine Grows.ext ?_ _ _)))⟩
      case measure => simp [intOf]; omega
    · have e1 : decide ((k : Int) < 8) = false := by simp; omega
      have c3 := (hGa.cellOf (i := 3) hs1).trans C.out.2.2.1
      have c4 := (hGa.cellOf (i := 4) hs1).trans C.out.2.2.2.1
      have r0 := (hGa.cellOf (i := 0) hs).trans C.out.2.2.2.2.1
      have r1 : wa.frozen? ⟨N2, 0, none⟩ = false := by
        obtain ⟨h, d, e⟩ := hGa
        rw [e]
        exact (ext_frozen _ _ _ _ _ hs).trans C.out.2.2.2.2.2
      have s0 : w.heap.size ≤ wa.heap.size := by omega
      have s3 : N2 < wa.heap.size + 1 := by omega
      have HG3 := Lib.hid (HG.out.trans hGa)
      clear hGa
      go_wp2_with fail
      refine bodyPost_ret (v := .agg #[.slice (some ⟨wa.heap.size + 1, 0, none⟩) 3 3]) (by simp [results, Tryd.results39, go_sem, r0, hs2', s3]; try rfl) rfl ?_
      refine ⟨wa.heap.size + 1, rfl, by omega, row_at (by simp), (by repeat' (first | (with_reducible exact HG3.out) | (with_reducible refine Grows.alloc ?_ _) | (with_reducible refine Grows.setCell ?_ hle2 _) | (with_reducible refine Grows.drew ?_) | (with_reducible refine Grows.ext ?_ _ _)))⟩
end Go.Proofs.YtobbphkfdhjmdaaDoor

namespace Go.Proofs.YtobbphkfdhjmdaaDoor
open Go.RowKit

theorem param39_any (p : Pen) (h : okPen p = true) (w : World) : Calls Tryd.prog 39 #[.agg #[.int .i64 39, .int .i64 p.n, .int .i64 p.m, .int .i64 p.ck, .int .i64 p.cn, .string ⟨#[]⟩]] w (ToldPost (toldP p) w) := by
  rcases okPen_cases h with rfl | ⟨m, hm, rfl⟩ | ⟨m, hm, rfl⟩ | ⟨m, h0, h5, rfl⟩ | ⟨n, hn, hp⟩
  · exact param39_reset w
  · rcases okAttr_cases hm with rfl | rfl | rfl | rfl | rfl | rfl | rfl | rfl
    · exact param39_1 1 0 (by decide) (by decide) (by decide) w
    · exact param39_1 2 1 (by decide) (by decide) (by decide) w
    · exact param39_1 4 2 (by decide) (by decide) (by decide) w
    · exact param39_1 8 3 (by decide) (by decide) (by decide) w
    · exact param39_1 16 4 (by decide) (by decide) (by decide) w
    · exact param39_1 32 5 (by decide) (by decide) (by decide) w
    · exact param39_1 64 6 (by decide) (by decide) (by decide) w
    · exact param39_1 128 7 (by decide) (by decide) (by decide) w
  · rcases hm with rfl | rfl | rfl | rfl | rfl | rfl | rfl
    · exact param39_both w
    · exact param39_2 4 2 (by decide) (by decide) (by decide) (by decide) w
    · exact param39_2 8 3 (by decide) (by decide) (by decide) (by decide) w
    · exact param39_2 16 4 (by decide) (by decide) (by decide) (by decide) w
    · exact param39_2 32 5 (by decide) (by decide) (by decide) (by decide) w
    · exact param39_2 64 6 (by decide) (by decide) (by decide) (by decide) w
    · exact param39_2 128 7 (by decide) (by decide) (by decide) (by decide) w
  · by_cases m0 : m = 0
    · subst m0; exact param39_off w
    · by_cases m1 : m = 1
      · subst m1; exact param39_line w
      · have e : toldP (pen 3 m) = [4, m] := by simp [toldP, pen, m0, m1]
        rw [e]
        exact param39_under m (by simpa using m1) (by simpa using m0) w
  · have hn4 : 4 ≤ n := by omega
    have hn6 : n ≤ 6 := by omega
    rcases hp with rfl | ⟨c, h0, h1, rfl⟩ | ⟨c, h0, h1, rfl⟩
    · have e : toldP (pen n 0) = [38 + 10 * (n - 4) + 1] := by rcases hn with rfl | rfl | rfl <;> rfl
      rw [e]
      exact param39_none n hn4 hn6 w
    · by_cases h6 : n = 6
      · subst h6
        have e : toldP (colored 6 1 c) = [58, 5, c] := by simp [toldP, colored]
        rw [e]
        exact param39_six6 c h0 h1 w
      · have n0 : ¬ n = 0 := by omega
        have n1 : ¬ n = 1 := by omega
        have n2 : ¬ n = 2 := by omega
        have n3 : ¬ n = 3 := by omega
        by_cases c8 : c < 8
        · have e : toldP (colored n 1 c) = [38 + 10 * (n - 4) - 8 + c] := by simp [toldP, colored, n0, n1, n2, n3, c8, h6]
          rw [e]
          exact param39_eight n c hn4 hn6 h6 h0 c8 w
        · by_cases c16 : c < 16
          · have e : toldP (colored n 1 c) = [38 + 10 * (n - 4) + 44 + c] := by simp [toldP, colored, n0, n1, n2, n3, c8, c16, h6]
            rw [e]
            exact param39_six n c hn4 hn6 h6 (by omega) c16 w
          · have e : toldP (colored n 1 c) = [38 + 10 * (n - 4), 5, c] := by simp [toldP, colored, n0, n1, n2, n3, c8, c16]
            rw [e]
            exact param39_more n c hn4 hn6 h6 (by omega) h1 w
    · have e : toldP (colored n 2 c) = [38 + 10 * (n - 4), 2, -1, c / 65536, c / 256 % 256, c % 256] := by rcases hn with rfl | rfl | rfl <;> simp [toldP, colored]
      rw [e]
      exact param39_rgb n c hn4 hn6 h0 h1 w
end Go.Proofs.YtobbphkfdhjmdaaDoor

