/-
  The reference: front, of a colour by its parts. The reference: front, whole.
-/
import Derived.Test.YtobbphkfdhjmdaaDoorRows
import Derived.Test.YtobbphkfdhjmdaaDoorM1
import Derived.Test.YtobbphkfdhjmdaaDoorM2
import Derived.Test.YtobbphkfdhjmdaaDoorM17
import Derived.Test.YtobbphkfdhjmdaaDoorM18
import Derived.WalkKit
import Derived.WalkSpells
import Derived.WalkLawsBesides
import Derived.Handy
import Derived.Laws.Rows
import Derived.Great.BuildSlice
import Derived.Deep.Heap
import Derived.IntWalk
import Derived.Lib.Hide
import Derived.Outline
import Derived.Deep.Light
import Derived.Deep.LoopGhost
import Derived.BigGuardPart
import Derived.BigQuiet
import Derived.Deep.QuietTactic
import Derived.Deep.RegionHeld3
import Derived.Deep.DeepCutAuto
import Derived.OwnWalk
import Derived.Maps.AppendAt
namespace Go.Proofs.YtobbphkfdhjmdaaDoor
open Go.RowKit

set_option maxRecDepth 100000 in
set_option maxHeartbeats 8000000 in
theorem front37_d2 (v : Value) (r : List (List Int)) (hl : r.length ≤ 1000) (hr0 : r ≠ []) (w : World) (h : RowAt w v r) (q : Pen × Bool) (L : Nat) (hL : (valuesL r).length = L) (v0 : Int) (hv0 : (valuesL r)[0]?.getD 0 = v0) (v1 : Int) (hv1 : (valuesL r)[1]?.getD 0 = v1) (v2 : Int) (hv2 : (valuesL r)[2]?.getD 0 = v2) (_h2 : 2 ≤ L) (hw : 0 ≤ whichV v0) (h3 : 3 ≤ L) (h5 : v1 = 5) (hwi : withinL [v2] = false) (hq : q = (noPen, false)) : Calls Tryd.prog 37 #[v] w (Ret (.tuple #[.agg (ansC q), .bool q.2, .int .i64 ((min 3 r.length : Nat) : Int)]) w) := by
  obtain ⟨a, cap, rfl, -, hin⟩ := h
  obtain ⟨i0, hi, hz0, hz1, hz2⟩ := info_parts infoInt
  obtain ⟨bA, offA, rfl, hbA, hcA⟩ := hin hr0
  have hrl0 : 0 < r.length := List.length_pos_iff.2 hr0
  subst hq
  simp only [ansC, Bool.false_eq_true, if_false, noPen]
  have e38 : decide ((L : Int) ≥ 2) = true := by simp; omega
  have e44 : decide (whichV v0 ≥ 0) = true := by simpa using hw
  subst h5
  have e57 : decide ((L : Int) ≥ 3) = true := by simp; omega
  have HWI := Lib.hid fun v W (h : IntsAt W v [v2]) => rwithin_any v [v2] (by simp) W h
  rw [hwi] at HWI
  have hle := values_le r
  rw [hL] at hle
  have hrN : ¬ r.length < 3 := by omega
  clear hle
  have HcA := Lib.hid hcA
  clear hcA hin
  go_enter Tryd.func37, Tryd.ntmps37
  go_upto_region 1 with fail
  refine abs_worldM (fun W => W.heap.size = w.heap.size + 1 ∧ Grows w W ∧ W.heap[w.heap.size]? = some (.cells #[.int .i64 0, .int .i64 0, .int .i64 0, .int .i64 0, .int .i64 0, .string ⟨#[]⟩] 26 (0, 0))) ⟨by simp, (by repeat' (first | (with_reducible exact Grows.refl _) | (with_reducible refine Grows.alloc ?_ _) | (with_reducible refine Grows.drew ?_) | (with_reducible refine Grows.ext ?_ _ _))), heap_alloc_new w _⟩ ?_
  rintro W0 ⟨hs0, hG0, hZ0⟩
  have HZ0 := Lib.hid hZ0
  have HG0 := Lib.hid hG0
  clear hZ0 hG0
  go_wp2_with fail
  go_loopw [5, 6] (fun x i wr => ∃ (k : Nat), k ≤ r.length ∧ i = .int .i64 k ∧ (∀ p ∈ r.take k, p.length = 1) ∧ wr.ownsRow (w.heap.size + 1) 3 1 x k ((valuesL (r.take k)).map (.int .i64 ·)) ∧ Below (w.heap.size + 1) W0 wr) (fun _ i _ => r.length - (intOf i).toNat)
  case atStart => exact ⟨0, Nat.zero_le _, rfl, by simp, World.ownsRow_nil _ _ _ _, Below.refl _ _⟩
  case round =>
    obtain ⟨k, hk, rfl, hone, hown, hb⟩ := hrel
    have hsz : w.heap.size + 1 ≤ wr.heap.size := by have := hb.size; omega
    have Hone := Lib.hid hone
    clear hone
    by_cases hlt : k < r.length
    · have e2 : decide (k < r.length) = true := by simpa using hlt
      obtain ⟨s, hs, a2, cap2, rfl, -, hin2⟩ := HcA.out k hlt
      have c0 := (hb.cell (p := ⟨bA, offA + k, none⟩) (by show bA < w.heap.size + 1; omega)).trans ((HG0.out.cellOf hbA).trans hs)
      have Hin2 := Lib.hid hin2
      have hbw : bA < wr.heap.size := by omega
      clear hs hin2
      by_cases h1 : (r[k]?.getD []).length = 1
      · have Hvs := Lib.hid (values_succ hlt Hone.out h1)
        have Hos := Lib.hid (ones_succ hlt Hone.out h1)
        generalize r[k]?.getD [] = p at *
        obtain ⟨x, rfl⟩ := List.length_eq_one_iff.1 h1
        obtain ⟨b2, off2, rfl, hb2, hc2⟩ := Hin2.out (by simp)
        have c1 := (hb.cell (p := ⟨b2, off2 + 0, none⟩) (by show b2 < w.heap.size + 1; omega)).trans ((HG0.out.cellOf hb2).trans (hc2 0 (by simp)))
        simp only [Nat.add_zero, List.length_singleton, List.getElem?_cons_zero, Option.getD_some] at c0 c1 Hvs
        have hbw2 : b2 < wr.heap.size := by omega
        clear Hin2 hc2 h1
        by_cases hx : 0 < x
        · have hmx : max 0 x = x := by omega
          go_wp2_with (at_builtin; refine wpList_append_own _ rfl (.tmp 25) (.tmp 34) 36 rfl (w.heap.size + 1) 3 i0 (.int .i64 0) 1 8 Tryd.underlying36 hi hz0 hz1 hz2 rfl (by decide) _ _ _ rfl (hown.alloc _) ⟨wr.heap.size, 0, none⟩ 1 1 [.int .i64 (x)] rfl rfl (cell_one_new _ _ _) (by simp [Value.oneCell']) (by unfold maxLen; omega) (by omega) (by simp; omega) ?_; intro v' w1 hown' hgrow _)
          have hb1 := (hb.alloc hsz (.cells #[.int .i64 (x)] 3)).grown hgrow (by simp; omega) (fun q e => (hown.lt q e).1)
          clear hgrow hown hb
          go_wp2
          go_roundw
          case rel => exact ⟨k + 1, by omega, by go_num, Hos.out, by rw [Hvs.out, List.map_append, List.map_singleton, hmx]; exact hown', hb1⟩
          case measure => simp [intOf]; omega
        · have hx' : x ≤ 0 := by omega
          have hmx : max 0 x = 0 := by omega
          go_wp2_with (at_builtin; refine wpList_append_own _ rfl (.tmp 25) (.tmp 34) 36 rfl (w.heap.size + 1) 3 i0 (.int .i64 0) 1 8 Tryd.underlying36 hi hz0 hz1 hz2 rfl (by decide) _ _ _ rfl (hown.alloc _) ⟨wr.heap.size, 0, none⟩ 1 1 [.int .i64 (0)] rfl rfl (cell_one_new _ _ _) (by simp [Value.oneCell']) (by unfold maxLen; omega) (by omega) (by simp; omega) ?_; intro v' w1 hown' hgrow _)
          have hb1 := (hb.alloc hsz (.cells #[.int .i64 (0)] 3)).grown hgrow (by simp; omega) (fun q e => (hown.lt q e).1)
          clear hgrow hown hb
          go_wp2
          go_roundw
          case rel => exact ⟨k + 1, by omega, by go_num, Hos.out, by rw [Hvs.out, List.map_append, List.map_singleton, hmx]; exact hown', hb1⟩
          case measure => simp [intOf]; omega
      · have e1 : (((r[k]?.getD []).length : Int) == 1) = false := by simp; omega
        have HX := Lib.hid (exit37 HG0.out hs0 HZ0.out hL (values_stop Hone.out (Or.inr h1)) hown hb)
        generalize (r[k]?.getD []).length = m at *
        clear h1 Hin2 Hone hown hb
        have hm : min 3 r.length = 3 := by omega
        have HMn := Lib.hid hm
        clear hm
        obtain ⟨hG, hR, a3, cap3, rfl, hcap3, hin3⟩ := HX.out
        have hsz2 : w.heap.size < wr.heap.size := (Array.getElem?_eq_some_iff.1 hR).1
        obtain ⟨b3, off3, rfl, hb1, hb2, hc3⟩ := hin3 (by omega)
        have c0 := hc3 0 (by omega)
        have c1 := hc3 1 (by omega)
        have c2 := hc3 2 (by omega)
        rw [hv0] at c0
        rw [hv1] at c1
        rw [hv2] at c2
        simp only [Nat.add_zero] at c0
        clear hc3 hin3
        have hl1 : (1 : Int) < (L : Int) := by omega
        have hl2 : (2 : Int) < (L : Int) := by omega
        have hn1 : ¬ b3 = w.heap.size := by omega
        have hn2 : ¬ w.heap.size = b3 := by omega
        have z0 := (cell_of_row wr w.heap.size 0 _ 26 (0, 0) hR).trans (show _ = some (.int .i64 0) from rfl)
        have f0 := frozen_of_row wr w.heap.size 0 _ 26 hR
        have z1 := (cell_of_row wr w.heap.size 1 _ 26 (0, 0) hR).trans (show _ = some (.int .i64 0) from rfl)
        have f1 := frozen_of_row wr w.heap.size 1 _ 26 hR
        have z2 := (cell_of_row wr w.heap.size 2 _ 26 (0, 0) hR).trans (show _ = some (.int .i64 0) from rfl)
        have f2 := frozen_of_row wr w.heap.size 2 _ 26 hR
        have z3 := (cell_of_row wr w.heap.size 3 _ 26 (0, 0) hR).trans (show _ = some (.int .i64 0) from rfl)
        have f3 := frozen_of_row wr w.heap.size 3 _ 26 hR
        have z4 := (cell_of_row wr w.heap.size 4 _ 26 (0, 0) hR).trans (show _ = some (.int .i64 0) from rfl)
        have f4 := frozen_of_row wr w.heap.size 4 _ 26 hR
        have z5 := (cell_of_row wr w.heap.size 5 _ 26 (0, 0) hR).trans (show _ = some (.string ⟨#[]⟩) from rfl)
        have f5 := frozen_of_row wr w.heap.size 5 _ 26 hR
        have HGx := Lib.hid hG
        have HR := Lib.hid hR
        clear hG hR HX HcA hcap3
        generalize r.length = n at *
        go_wp2_with (first | (go_at_call 68; (with_reducible refine (which_any _ _).mono ?_); rintro e w' ⟨rfl, h2, d2, rfl⟩) | (go_at_call 69; (with_reducible refine (HWI.out _ _ ?hi69_13).mono ?hm69_13); (case hi69_13 => exact told_at1 (by simp) v2); rintro e w' ⟨rfl, rfl⟩))
        refine wp_region_grow (by kernel_rfl) (by kernel_rfl) ?_
        repeat (first | go_big_quiet_step ((fail)) | quiet_step ((fail)))
        refine wpQuiet_nil ?_
        rintro _ ⟨g183, rfl⟩
        go_wp2_with fail
        refine bodyPost_ret (res37 (N := w.heap.size) (row := #[.int .i64 (0), .int .i64 (0), .int .i64 (0), .int .i64 (0), .int .i64 (0), .string ⟨#[]⟩]) ?hw37_13 rfl rfl rfl rfl) rfl ⟨(by rw [HMn.out]; rfl), (by repeat' (first | (with_reducible exact HGx.out) | (with_reducible exact Grows.refl _) | (with_reducible refine Grows.setCell ?_ (Nat.le_refl _) _) | (with_reducible refine Grows.alloc ?_ _) | (with_reducible refine Grows.drew ?_) | (with_reducible refine Grows.ext ?_ _ _)))⟩
        case hw37_13 => exact Grows.rowK (set6 HR.out) (by repeat' (first | (with_reducible exact Grows.refl _) | (with_reducible refine Grows.alloc ?_ _) | (with_reducible refine Grows.drew ?_) | (with_reducible refine Grows.ext ?_ _ _)))
    · have e2 : decide (k < r.length) = false := by simpa using hlt
      have HX := Lib.hid (exit37 HG0.out hs0 HZ0.out hL (values_stop Hone.out (Or.inl (by omega))) hown hb)
      clear Hone hown hb
      have hm : min 3 r.length = 3 := by omega
      have HMn := Lib.hid hm
      clear hm
      obtain ⟨hG, hR, a3, cap3, rfl, hcap3, hin3⟩ := HX.out
      have hsz2 : w.heap.size < wr.heap.size := (Array.getElem?_eq_some_iff.1 hR).1
      obtain ⟨b3, off3, rfl, hb1, hb2, hc3⟩ := hin3 (by omega)
      have c0 := hc3 0 (by omega)
      have c1 := hc3 1 (by omega)
      have c2 := hc3 2 (by omega)
      rw [hv0] at c0
      rw [hv1] at c1
      rw [hv2] at c2
      simp only [Nat.add_zero] at c0
      clear hc3 hin3
      have hl1 : (1 : Int) < (L : Int) := by omega
      have hl2 : (2 : Int) < (L : Int) := by omega
      have hn1 : ¬ b3 = w.heap.size := by omega
      have hn2 : ¬ w.heap.size = b3 := by omega
      have z0 := (cell_of_row wr w.heap.size 0 _ 26 (0, 0) hR).trans (show _ = some (.int .i64 0) from rfl)
      have f0 := frozen_of_row wr w.heap.size 0 _ 26 hR
      have z1 := (cell_of_row wr w.heap.size 1 _ 26 (0, 0) hR).trans (show _ = some (.int .i64 0) from rfl)
      have f1 := frozen_of_row wr w.heap.size 1 _ 26 hR
      have z2 := (cell_of_row wr w.heap.size 2 _ 26 (0, 0) hR).trans (show _ = some (.int .i64 0) from rfl)
      have f2 := frozen_of_row wr w.heap.size 2 _ 26 hR
      have z3 := (cell_of_row wr w.heap.size 3 _ 26 (0, 0) hR).trans (show _ = some (.int .i64 0) from rfl)
      have f3 := frozen_of_row wr w.heap.size 3 _ 26 hR
      have z4 := (cell_of_row wr w.heap.size 4 _ 26 (0, 0) hR).trans (show _ = some (.int .i64 0) from rfl)
      have f4 := frozen_of_row wr w.heap.size 4 _ 26 hR
      have z5 := (cell_of_row wr w.heap.size 5 _ 26 (0, 0) hR).trans (show _ = some (.string ⟨#[]⟩) from rfl)
      have f5 := frozen_of_row wr w.heap.size 5 _ 26 hR
      have HGx := Lib.hid hG
      have HR := Lib.hid hR
      clear hG hR HX HcA hcap3
      generalize r.length = n at *
      go_wp2_with (first | (go_at_call 68; (with_reducible refine (which_any _ _).mono ?_); rintro e w' ⟨rfl, h2, d2, rfl⟩) | (go_at_call 69; (with_reducible refine (HWI.out _ _ ?hi69_14).mono ?hm69_14); (case hi69_14 => exact told_at1 (by simp) v2); rintro e w' ⟨rfl, rfl⟩))
      refine wp_region_grow (by kernel_rfl) (by kernel_rfl) ?_
      repeat (first | go_big_quiet_step ((fail)) | quiet_step ((fail)))
      refine wpQuiet_nil ?_
      rintro _ ⟨g183, rfl⟩
      go_wp2_with fail
      refine bodyPost_ret (res37 (N := w.heap.size) (row := #[.int .i64 (0), .int .i64 (0), .int .i64 (0), .int .i64 (0), .int .i64 (0), .string ⟨#[]⟩]) ?hw37_14 rfl rfl rfl rfl) rfl ⟨(by rw [HMn.out]; rfl), (by repeat' (first | (with_reducible exact HGx.out) | (with_reducible exact Grows.refl _) | (with_reducible refine Grows.setCell ?_ (Nat.le_refl _) _) | (with_reducible refine Grows.alloc ?_ _) | (with_reducible refine Grows.drew ?_) | (with_reducible refine Grows.ext ?_ _ _)))⟩
      case hw37_14 => exact Grows.rowK (set6 HR.out) (by repeat' (first | (with_reducible exact Grows.refl _) | (with_reducible refine Grows.alloc ?_ _) | (with_reducible refine Grows.drew ?_) | (with_reducible refine Grows.ext ?_ _ _)))
set_option maxRecDepth 100000 in
set_option maxHeartbeats 8000000 in
theorem front37_e1 (v : Value) (r : List (List Int)) (hl : r.length ≤ 1000) (hr0 : r ≠ []) (w : World) (h : RowAt w v r) (q : Pen × Bool) (L : Nat) (hL : (valuesL r).length = L) (v0 : Int) (hv0 : (valuesL r)[0]?.getD 0 = v0) (v1 : Int) (hv1 : (valuesL r)[1]?.getD 0 = v1) (h2 : 2 ≤ L) (hw : 0 ≤ whichV v0) (h3 : L < 5) (h5 : v1 = 2) (hq : q = (noPen, false)) : Calls Tryd.prog 37 #[v] w (Ret (.tuple #[.agg (ansC q), .bool q.2, .int .i64 ((min 5 r.length : Nat) : Int)]) w) := by
  obtain ⟨a, cap, rfl, -, hin⟩ := h
  obtain ⟨i0, hi, hz0, hz1, hz2⟩ := info_parts infoInt
  obtain ⟨bA, offA, rfl, hbA, hcA⟩ := hin hr0
  have hrl0 : 0 < r.length := List.length_pos_iff.2 hr0
  subst hq
  simp only [ansC, Bool.false_eq_true, if_false, noPen]
  have e38 : decide ((L : Int) ≥ 2) = true := by simp; omega
  have e44 : decide (whichV v0 ≥ 0) = true := by simpa using hw
  subst h5
  have e78 : decide ((L : Int) ≥ 5) = false := by simp; omega
  have HcA := Lib.hid hcA
  clear hcA hin
  go_enter Tryd.func37, Tryd.ntmps37
  go_upto_region 1 with fail
  refine abs_worldM (fun W => W.heap.size = w.heap.size + 1 ∧ Grows w W ∧ W.heap[w.heap.size]? = some (.cells #[.int .i64 0, .int .i64 0, .int .i64 0, .int .i64 0, .int .i64 0, .string ⟨#[]⟩] 26 (0, 0))) ⟨by simp, (by repeat' (first | (with_reducible exact Grows.refl _) | (with_reducible refine Grows.alloc ?_ _) | (with_reducible refine Grows.drew ?_) | (with_reducible refine Grows.ext ?_ _ _))), heap_alloc_new w _⟩ ?_
  rintro W0 ⟨hs0, hG0, hZ0⟩
  have HZ0 := Lib.hid hZ0
  have HG0 := Lib.hid hG0
  clear hZ0 hG0
  go_wp2_with fail
  go_loopw [5, 6] (fun x i wr => ∃ (k : Nat), k ≤ r.length ∧ i = .int .i64 k ∧ (∀ p ∈ r.take k, p.length = 1) ∧ wr.ownsRow (w.heap.size + 1) 3 1 x k ((valuesL (r.take k)).map (.int .i64 ·)) ∧ Below (w.heap.size + 1) W0 wr) (fun _ i _ => r.length - (intOf i).toNat)
  case atStart => exact ⟨0, Nat.zero_le _, rfl, by simp, World.ownsRow_nil _ _ _ _, Below.refl _ _⟩
  case round =>
    obtain ⟨k, hk, rfl, hone, hown, hb⟩ := hrel
    have hsz : w.heap.size + 1 ≤ wr.heap.size := by have := hb.size; omega
    have Hone := Lib.hid hone
    clear hone
    by_cases hlt : k < r.length
    · have e2 : decide (k < r.length) = true := by simpa using hlt
      obtain ⟨s, hs, a2, cap2, rfl, -, hin2⟩ := HcA.out k hlt
      have c0 := (hb.cell (p := ⟨bA, offA + k, none⟩) (by show bA < w.heap.size + 1; omega)).trans ((HG0.out.cellOf hbA).trans hs)
      have Hin2 := Lib.hid hin2
      have hbw : bA < wr.heap.size := by omega
      clear hs hin2
      by_cases h1 : (r[k]?.getD []).length = 1
      · have Hvs := Lib.hid (values_succ hlt Hone.out h1)
        have Hos := Lib.hid (ones_succ hlt Hone.out h1)
        generalize r[k]?.getD [] = p at *
        obtain ⟨x, rfl⟩ := List.length_eq_one_iff.1 h1
        obtain ⟨b2, off2, rfl, hb2, hc2⟩ := Hin2.out (by simp)
        have c1 := (hb.cell (p := ⟨b2, off2 + 0, none⟩) (by show b2 < w.heap.size + 1; omega)).trans ((HG0.out.cellOf hb2).trans (hc2 0 (by simp)))
        simp only [Nat.add_zero, List.length_singleton, List.getElem?_cons_zero, Option.getD_some] at c0 c1 Hvs
        have hbw2 : b2 < wr.heap.size := by omega
        clear Hin2 hc2 h1
        by_cases hx : 0 < x
        · have hmx : max 0 x = x := by omega
          go_wp2_with (at_builtin; refine wpList_append_own _ rfl (.tmp 25) (.tmp 34) 36 rfl (w.heap.size + 1) 3 i0 (.int .i64 0) 1 8 Tryd.underlying36 hi hz0 hz1 hz2 rfl (by decide) _ _ _ rfl (hown.alloc _) ⟨wr.heap.size, 0, none⟩ 1 1 [.int .i64 (x)] rfl rfl (cell_one_new _ _ _) (by simp [Value.oneCell']) (by unfold maxLen; omega) (by omega) (by simp; omega) ?_; intro v' w1 hown' hgrow _)
          have hb1 := (hb.alloc hsz (.cells #[.int .i64 (x)] 3)).grown hgrow (by simp; omega) (fun q e => (hown.lt q e).1)
          clear hgrow hown hb
          go_wp2
          go_roundw
          case rel => exact ⟨k + 1, by omega, by go_num, Hos.out, by rw [Hvs.out, List.map_append, List.map_singleton, hmx]; exact hown', hb1⟩
          case measure => simp [intOf]; omega
        · have hx' : x ≤ 0 := by omega
          have hmx : max 0 x = 0 := by omega
          go_wp2_with (at_builtin; refine wpList_append_own _ rfl (.tmp 25) (.tmp 34) 36 rfl (w.heap.size + 1) 3 i0 (.int .i64 0) 1 8 Tryd.underlying36 hi hz0 hz1 hz2 rfl (by decide) _ _ _ rfl (hown.alloc _) ⟨wr.heap.size, 0, none⟩ 1 1 [.int .i64 (0)] rfl rfl (cell_one_new _ _ _) (by simp [Value.oneCell']) (by unfold maxLen; omega) (by omega) (by simp; omega) ?_; intro v' w1 hown' hgrow _)
          have hb1 := (hb.alloc hsz (.cells #[.int .i64 (0)] 3)).grown hgrow (by simp; omega) (fun q e => (hown.lt q e).1)
          clear hgrow hown hb
          go_wp2
          go_roundw
          case rel => exact ⟨k + 1, by omega, by go_num, Hos.out, by rw [Hvs.out, List.map_append, List.map_singleton, hmx]; exact hown', hb1⟩
          case measure => simp [intOf]; omega
      · have e1 : (((r[k]?.getD []).length : Int) == 1) = false := by simp; omega
        have HX := Lib.hid (exit37 HG0.out hs0 HZ0.out hL (values_stop Hone.out (Or.inr h1)) hown hb)
        generalize (r[k]?.getD []).length = m at *
        clear h1 Hin2 Hone hown hb
        by_cases hr : r.length < 5
        · have hm : min 5 r.length = r.length := by omega
          have HMn := Lib.hid hm
          clear hm
          obtain ⟨hG, hR, a3, cap3, rfl, hcap3, hin3⟩ := HX.out
          have hsz2 : w.heap.size < wr.heap.size := (Array.getElem?_eq_some_iff.1 hR).1
          obtain ⟨b3, off3, rfl, hb1, hb2, hc3⟩ := hin3 (by omega)
          have c0 := hc3 0 (by omega)
          have c1 := hc3 1 (by omega)
          rw [hv0] at c0
          rw [hv1] at c1
          simp only [Nat.add_zero] at c0
          clear hc3 hin3
          have hl1 : (1 : Int) < (L : Int) := by omega
          have hn1 : ¬ b3 = w.heap.size := by omega
          have hn2 : ¬ w.heap.size = b3 := by omega
          have z0 := (cell_of_row wr w.heap.size 0 _ 26 (0, 0) hR).trans (show _ = some (.int .i64 0) from rfl)
          have f0 := frozen_of_row wr w.heap.size 0 _ 26 hR
          have z1 := (cell_of_row wr w.heap.size 1 _ 26 (0, 0) hR).trans (show _ = some (.int .i64 0) from rfl)
          have f1 := frozen_of_row wr w.heap.size 1 _ 26 hR
          have z2 := (cell_of_row wr w.heap.size 2 _ 26 (0, 0) hR).trans (show _ = some (.int .i64 0) from rfl)
          have f2 := frozen_of_row wr w.heap.size 2 _ 26 hR
          have z3 := (cell_of_row wr w.heap.size 3 _ 26 (0, 0) hR).trans (show _ = some (.int .i64 0) from rfl)
          have f3 := frozen_of_row wr w.heap.size 3 _ 26 hR
          have z4 := (cell_of_row wr w.heap.size 4 _ 26 (0, 0) hR).trans (show _ = some (.int .i64 0) from rfl)
          have f4 := frozen_of_row wr w.heap.size 4 _ 26 hR
          have z5 := (cell_of_row wr w.heap.size 5 _ 26 (0, 0) hR).trans (show _ = some (.string ⟨#[]⟩) from rfl)
          have f5 := frozen_of_row wr w.heap.size 5 _ 26 hR
          have HGx := Lib.hid hG
          have HR := Lib.hid hR
          clear hG hR HX HcA hcap3
          generalize r.length = n at *
          go_wp2_with (go_at_call 68; (with_reducible refine (which_any _ _).mono ?_); rintro e w' ⟨rfl, h2, d2, rfl⟩)
          refine wp_region_grow (by kernel_rfl) (by kernel_rfl) ?_
          repeat (first | go_big_quiet_step ((fail)) | quiet_step ((fail)))
          refine wpQuiet_nil ?_
          rintro _ ⟨g183, rfl⟩
          go_wp2_with fail
          refine bodyPost_ret (res37 (N := w.heap.size) (row := #[.int .i64 (0), .int .i64 (0), .int .i64 (0), .int .i64 (0), .int .i64 (0), .string ⟨#[]⟩]) ?hw37_17_15 rfl rfl rfl rfl) rfl ⟨(by rw [HMn.out]; rfl), (by repeat' (first | (with_reducible exact HGx.out) | (with_reducible exact Grows.refl _) | (with_reducible refine Grows.setCell ?_ (Nat.le_refl _) _) | (with_reducible refine Grows.alloc ?_ _) | (with_reducible refine Grows.drew ?_) | (with_reducible refine Grows.ext ?_ _ _)))⟩
          case hw37_17_15 => exact Grows.rowK (set6 HR.out) (by repeat' (first | (with_reducible exact Grows.refl _) | (with_reducible refine Grows.alloc ?_ _) | (with_reducible refine Grows.drew ?_) | (with_reducible refine Grows.ext ?_ _ _)))
        · have hm : min 5 r.length = 5 := by omega
          have HMn := Lib.hid hm
          clear hm
          obtain ⟨hG, hR, a3, cap3, rfl, hcap3, hin3⟩ := HX.out
          have hsz2 : w.heap.size < wr.heap.size := (Array.getElem?_eq_some_iff.1 hR).1
          obtain ⟨b3, off3, rfl, hb1, hb2, hc3⟩ := hin3 (by omega)
          have c0 := hc3 0 (by omega)
          have c1 := hc3 1 (by omega)
          rw [hv0] at c0
          rw [hv1] at c1
          simp only [Nat.add_zero] at c0
          clear hc3 hin3
          have hl1 : (1 : Int) < (L : Int) := by omega
          have hn1 : ¬ b3 = w.heap.size := by omega
          have hn2 : ¬ w.heap.size = b3 := by omega
          have z0 := (cell_of_row wr w.heap.size 0 _ 26 (0, 0) hR).trans (show _ = some (.int .i64 0) from rfl)
          have f0 := frozen_of_row wr w.heap.size 0 _ 26 hR
          have z1 := (cell_of_row wr w.heap.size 1 _ 26 (0, 0) hR).trans (show _ = some (.int .i64 0) from rfl)
          have f1 := frozen_of_row wr w.heap.size 1 _ 26 hR
          have z2 := (cell_of_row wr w.heap.size 2 _ 26 (0, 0) hR).trans (show _ = some (.int .i64 0) from rfl)
          have f2 := frozen_of_row wr w.heap.size 2 _ 26 hR
          have z3 := (cell_of_row wr w.heap.size 3 _ 26 (0, 0) hR).trans (show _ = some (.int .i64 0) from rfl)
          have f3 := frozen_of_row wr w.heap.size 3 _ 26 hR
          have z4 := (cell_of_row wr w.heap.size 4 _ 26 (0, 0) hR).trans (show _ = some (.int .i64 0) from rfl)
          have f4 := frozen_of_row wr w.heap.size 4 _ 26 hR
          have z5 := (cell_of_row wr w.heap.size 5 _ 26 (0, 0) hR).trans (show _ = some (.string ⟨#[]⟩) from rfl)
          have f5 := frozen_of_row wr w.heap.size 5 _ 26 hR
          have HGx := Lib.hid hG
          have HR := Lib.hid hR
          clear hG hR HX HcA hcap3
          generalize r.length = n at *
          go_wp2_with (go_at_call 68; (with_reducible refine (which_any _ _).mono ?_); rintro e w' ⟨rfl, h2, d2, rfl⟩)
          refine wp_region_grow (by kernel_rfl) (by kernel_rfl) ?_
          repeat (first | go_big_quiet_step ((fail)) | quiet_step ((fail)))
          refine wpQuiet_nil ?_
          rintro _ ⟨g183, rfl⟩
          go_wp2_with fail
          refine bodyPost_ret (res37 (N := w.heap.size) (row := #[.int .i64 (0), .int .i64 (0), .int .i64 (0), .int .i64 (0), .int .i64 (0), .string ⟨#[]⟩]) ?hw37_17_16 rfl rfl rfl rfl) rfl ⟨(by rw [HMn.out]; rfl), (by repeat' (first | (with_reducible exact HGx.out) | (with_reducible exact Grows.refl _) | (with_reducible refine Grows.setCell ?_ (Nat.le_refl _) _) | (with_reducible refine Grows.alloc ?_ _) | (with_reducible refine Grows.drew ?_) | (with_reducible refine Grows.ext ?_ _ _)))⟩
          case hw37_17_16 => exact Grows.rowK (set6 HR.out) (by repeat' (first | (with_reducible exact Grows.refl _) | (with_reducible refine Grows.alloc ?_ _) | (with_reducible refine Grows.drew ?_) | (with_reducible refine Grows.ext ?_ _ _)))
    · have e2 : decide (k < r.length) = false := by simpa using hlt
      have HX := Lib.hid (exit37 HG0.out hs0 HZ0.out hL (values_stop Hone.out (Or.inl (by omega))) hown hb)
      clear Hone hown hb
      by_cases hr : r.length < 5
      · have hm : min 5 r.length = r.length := by omega
        have HMn := Lib.hid hm
        clear hm
        obtain ⟨hG, hR, a3, cap3, rfl, hcap3, hin3⟩ := HX.out
        have hsz2 : w.heap.size < wr.heap.size := (Array.getElem?_eq_some_iff.1 hR).1
        obtain ⟨b3, off3, rfl, hb1, hb2, hc3⟩ := hin3 (by omega)
        have c0 := hc3 0 (by omega)
        have c1 := hc3 1 (by omega)
        rw [hv0] at c0
        rw [hv1] at c1
        simp only [Nat.add_zero] at c0
        clear hc3 hin3
        have hl1 : (1 : Int) < (L : Int) := by omega
        have hn1 : ¬ b3 = w.heap.size := by omega
        have hn2 : ¬ w.heap.size = b3 := by omega
        have z0 := (cell_of_row wr w.heap.size 0 _ 26 (0, 0) hR).trans (show _ = some (.int .i64 0) from rfl)
        have f0 := frozen_of_row wr w.heap.size 0 _ 26 hR
        have z1 := (cell_of_row wr w.heap.size 1 _ 26 (0, 0) hR).trans (show _ = some (.int .i64 0) from rfl)
        have f1 := frozen_of_row wr w.heap.size 1 _ 26 hR
        have z2 := (cell_of_row wr w.heap.size 2 _ 26 (0, 0) hR).trans (show _ = some (.int .i64 0) from rfl)
        have f2 := frozen_of_row wr w.heap.size 2 _ 26 hR
        have z3 := (cell_of_row wr w.heap.size 3 _ 26 (0, 0) hR).trans (show _ = some (.int .i64 0) from rfl)
        have f3 := frozen_of_row wr w.heap.size 3 _ 26 hR
        have z4 := (cell_of_row wr w.heap.size 4 _ 26 (0, 0) hR).trans (show _ = some (.int .i64 0) from rfl)
        have f4 := frozen_of_row wr w.heap.size 4 _ 26 hR
        have z5 := (cell_of_row wr w.heap.size 5 _ 26 (0, 0) hR).trans (show _ = some (.string ⟨#[]⟩) from rfl)
        have f5 := frozen_of_row wr w.heap.size 5 _ 26 hR
        have HGx := Lib.hid hG
        have HR := Lib.hid hR
        clear hG hR HX HcA hcap3
        generalize r.length = n at *
        go_wp2_with (go_at_call 68; (with_reducible refine (which_any _ _).mono ?_); rintro e w' ⟨rfl, h2, d2, rfl⟩)
        refine wp_region_grow (by kernel_rfl) (by kernel_rfl) ?_
        repeat (first | go_big_quiet_step ((fail)) | quiet_step ((fail)))
        refine wpQuiet_nil ?_
        rintro _ ⟨g183, rfl⟩
        go_wp2_with fail
        refine bodyPost_ret (res37 (N := w.heap.size) (row := #[.int .i64 (0), .int .i64 (0), .int .i64 (0), .int .i64 (0), .int .i64 (0), .string ⟨#[]⟩]) ?hw37_18_15 rfl rfl rfl rfl) rfl ⟨(by rw [HMn.out]; rfl), (by repeat' (first | (with_reducible exact HGx.out) | (with_reducible exact Grows.refl _) | (with_reducible refine Grows.setCell ?_ (Nat.le_refl _) _) | (with_reducible refine Grows.alloc ?_ _) | (with_reducible refine Grows.drew ?_) | (with_reducible refine Grows.ext ?_ _ _)))⟩
        case hw37_18_15 => exact Grows.rowK (set6 HR.out) (by repeat' (first | (with_reducible exact Grows.refl _) | (with_reducible refine Grows.alloc ?_ _) | (with_reducible refine Grows.drew ?_) | (with_reducible refine Grows.ext ?_ _ _)))
      · have hm : min 5 r.length = 5 := by omega
        have HMn := Lib.hid hm
        clear hm
        obtain ⟨hG, hR, a3, cap3, rfl, hcap3, hin3⟩ := HX.out
        have hsz2 : w.heap.size < wr.heap.size := (Array.getElem?_eq_some_iff.1 hR).1
        obtain ⟨b3, off3, rfl, hb1, hb2, hc3⟩ := hin3 (by omega)
        have c0 := hc3 0 (by omega)
        have c1 := hc3 1 (by omega)
        rw [hv0] at c0
        rw [hv1] at c1
        simp only [Nat.add_zero] at c0
        clear hc3 hin3
        have hl1 : (1 : Int) < (L : Int) := by omega
        have hn1 : ¬ b3 = w.heap.size := by omega
        have hn2 : ¬ w.heap.size = b3 := by omega
        have z0 := (cell_of_row wr w.heap.size 0 _ 26 (0, 0) hR).trans (show _ = some (.int .i64 0) from rfl)
        have f0 := frozen_of_row wr w.heap.size 0 _ 26 hR
        have z1 := (cell_of_row wr w.heap.size 1 _ 26 (0, 0) hR).trans (show _ = some (.int .i64 0) from rfl)
        have f1 := frozen_of_row wr w.heap.size 1 _ 26 hR
        have z2 := (cell_of_row wr w.heap.size 2 _ 26 (0, 0) hR).trans (show _ = some (.int .i64 0) from rfl)
        have f2 := frozen_of_row wr w.heap.size 2 _ 26 hR
        have z3 := (cell_of_row wr w.heap.size 3 _ 26 (0, 0) hR).trans (show _ = some (.int .i64 0) from rfl)
        have f3 := frozen_of_row wr w.heap.size 3 _ 26 hR
        have z4 := (cell_of_row wr w.heap.size 4 _ 26 (0, 0) hR).trans (show _ = some (.int .i64 0) from rfl)
        have f4 := frozen_of_row wr w.heap.size 4 _ 26 hR
        have z5 := (cell_of_row wr w.heap.size 5 _ 26 (0, 0) hR).trans (show _ = some (.string ⟨#[]⟩) from rfl)
        have f5 := frozen_of_row wr w.heap.size 5 _ 26 hR
        have HGx := Lib.hid hG
        have HR := Lib.hid hR
        clear hG hR HX HcA hcap3
        generalize r.length = n at *
        go_wp2_with (go_at_call 68; (with_reducible refine (which_any _ _).mono ?_); rintro e w' ⟨rfl, h2, d2, rfl⟩)
        refine wp_region_grow (by kernel_rfl) (by kernel_rfl) ?_
        repeat (first | go_big_quiet_step ((fail)) | quiet_step ((fail)))
        refine wpQuiet_nil ?_
        rintro _ ⟨g183, rfl⟩
        go_wp2_with fail
        refine bodyPost_ret (res37 (N := w.heap.size) (row := #[.int .i64 (0), .int .i64 (0), .int .i64 (0), .int .i64 (0), .int .i64 (0), .string ⟨#[]⟩]) ?hw37_18_16 rfl rfl rfl rfl) rfl ⟨(by rw [HMn.out]; rfl), (by repeat' (first | (with_reducible exact HGx.out) | (with_reducible exact Grows.refl _) | (with_reducible refine Grows.setCell ?_ (Nat.le_refl _) _) | (with_reducible refine Grows.alloc ?_ _) | (with_reducible refine Grows.drew ?_) | (with_reducible refine Grows.ext ?_ _ _)))⟩
        case hw37_18_16 => exact Grows.rowK (set6 HR.out) (by repeat' (first | (with_reducible exact Grows.refl _) | (with_reducible refine Grows.alloc ?_ _) | (with_reducible refine Grows.drew ?_) | (with_reducible refine Grows.ext ?_ _ _)))
set_option maxRecDepth 100000 in
set_option maxHeartbeats 8000000 in
theorem front37_e2 (v : Value) (r : List (List Int)) (hl : r.length ≤ 1000) (hr0 : r ≠ []) (w : World) (h : RowAt w v r) (q : Pen × Bool) (L : Nat) (hL : (valuesL r).length = L) (v0 : Int) (hv0 : (valuesL r)[0]?.getD 0 = v0) (v1 : Int) (hv1 : (valuesL r)[1]?.getD 0 = v1) (v2 : Int) (hv2 : (valuesL r)[2]?.getD 0 = v2) (v3 : Int) (hv3 : (valuesL r)[3]?.getD 0 = v3) (v4 : Int) (hv4 : (valuesL r)[4]?.getD 0 = v4) (_h2 : 2 ≤ L) (hw : 0 ≤ whichV v0) (h3 : 5 ≤ L) (h5 : v1 = 2) (hwi : withinL [v2, v3, v4] = false) (hq : q = (noPen, false)) : Calls Tryd.prog 37 #[v] w (Ret (.tuple #[.agg (ansC q), .bool q.2, .int .i64 ((min 5 r.length : Nat) : Int)]) w) := by
  obtain ⟨a, cap, rfl, -, hin⟩ := h
  obtain ⟨i0, hi, hz0, hz1, hz2⟩ := info_parts infoInt
  obtain ⟨bA, offA, rfl, hbA, hcA⟩ := hin hr0
  have hrl0 : 0 < r.length := List.length_pos_iff.2 hr0
  subst hq
  simp only [ansC, Bool.false_eq_true, if_false, noPen]
  have e38 : decide ((L : Int) ≥ 2) = true := by simp; omega
  have e44 : decide (whichV v0 ≥ 0) = true := by simpa using hw
  subst h5
  have e78 : decide ((L : Int) ≥ 5) = true := by simp; omega
  have HWI := Lib.hid fun v W (h : IntsAt W v [v2, v3, v4]) => rwithin_any v [v2, v3, v4] (by simp) W h
  rw [hwi] at HWI
  have hle := values_le r
  rw [hL] at hle
  have hrN : ¬ r.length < 5 := by omega
  clear hle
  have HcA := Lib.hid hcA
  clear hcA hin
  go_enter Tryd.func37, Tryd.ntmps37
  go_upto_region 1 with fail
  refine abs_worldM (fun W => W.heap.size = w.heap.size + 1 ∧ Grows w W ∧ W.heap[w.heap.size]? = some (.cells #[.int .i64 0, .int .i64 0, .int .i64 0, .int .i64 0, .int .i64 0, .string ⟨#[]⟩] 26 (0, 0))) ⟨by simp, (by repeat' (first | (with_reducible exact Grows.refl _) | (with_reducible refine Grows.alloc ?_ _) | (with_reducible refine Grows.drew ?_) | (with_reducible refine Grows.ext ?_ _ _))), heap_alloc_new w _⟩ ?_
  rintro W0 ⟨hs0, hG0, hZ0⟩
  have HZ0 := Lib.hid hZ0
  have HG0 := Lib.hid hG0
  clear hZ0 hG0
  go_wp2_with fail
  go_loopw [5, 6] (fun x i wr => ∃ (k : Nat), k ≤ r.length ∧ i = .int .i64 k ∧ (∀ p ∈ r.take k, p.length = 1) ∧ wr.ownsRow (w.heap.size + 1) 3 1 x k ((valuesL (r.take k)).map (.int .i64 ·)) ∧ Below (w.heap.size + 1) W0 wr) (fun _ i _ => r.length - (intOf i).toNat)
  case atStart => exact ⟨0, Nat.zero_le _, rfl, by simp, World.ownsRow_nil _ _ _ _, Below.refl _ _⟩
  case round =>
    obtain ⟨k, hk, rfl, hone, hown, hb⟩ := hrel
    have hsz : w.heap.size + 1 ≤ wr.heap.size := by have := hb.size; omega
    have Hone := Lib.hid hone
    clear hone
    by_cases hlt : k < r.length
    · have e2 : decide (k < r.length) = true := by simpa using hlt
      obtain ⟨s, hs, a2, cap2, rfl, -, hin2⟩ := HcA.out k hlt
      have c0 := (hb.cell (p := ⟨bA, offA + k, none⟩) (by show bA < w.heap.size + 1; omega)).trans ((HG0.out.cellOf hbA).trans hs)
      have Hin2 := Lib.hid hin2
      have hbw : bA < wr.heap.size := by omega
      clear hs hin2
      by_cases h1 : (r[k]?.getD []).length = 1
      · have Hvs := Lib.hid (values_succ hlt Hone.out h1)
        have Hos := Lib.hid (ones_succ hlt Hone.out h1)
        generalize r[k]?.getD [] = p at *
        obtain ⟨x, rfl⟩ := List.length_eq_one_iff.1 h1
        obtain ⟨b2, off2, rfl, hb2, hc2⟩ := Hin2.out (by simp)
        have c1 := (hb.cell (p := ⟨b2, off2 + 0, none⟩) (by show b2 < w.heap.size + 1; omega)).trans ((HG0.out.cellOf hb2).trans (hc2 0 (by simp)))
        simp only [Nat.add_zero, List.length_singleton, List.getElem?_cons_zero, Option.getD_some] at c0 c1 Hvs
        have hbw2 : b2 < wr.heap.size := by omega
        clear Hin2 hc2 h1
        by_cases hx : 0 < x
        · have hmx : max 0 x = x := by omega
          go_wp2_with (at_builtin; refine wpList_append_own _ rfl (.tmp 25) (.tmp 34) 36 rfl (w.heap.size + 1) 3 i0 (.int .i64 0) 1 8 Tryd.underlying36 hi hz0 hz1 hz2 rfl (by decide) _ _ _ rfl (hown.alloc _) ⟨wr.heap.size, 0, none⟩ 1 1 [.int .i64 (x)] rfl rfl (cell_one_new _ _ _) (by simp [Value.oneCell']) (by unfold maxLen; omega) (by omega) (by simp; omega) ?_; intro v' w1 hown' hgrow _)
          have hb1 := (hb.alloc hsz (.cells #[.int .i64 (x)] 3)).grown hgrow (by simp; omega) (fun q e => (hown.lt q e).1)
          clear hgrow hown hb
          go_wp2
          go_roundw
          case rel => exact ⟨k + 1, by omega, by go_num, Hos.out, by rw [Hvs.out, List.map_append, List.map_singleton, hmx]; exact hown', hb1⟩
          case measure => simp [intOf]; omega
        · have hx' : x ≤ 0 := by omega
          have hmx : max 0 x = 0 := by omega
          go_wp2_with (at_builtin; refine wpList_append_own _ rfl (.tmp 25) (.tmp 34) 36 rfl (w.heap.size + 1) 3 i0 (.int .i64 0) 1 8 Tryd.underlying36 hi hz0 hz1 hz2 rfl (by decide) _ _ _ rfl (hown.alloc _) ⟨wr.heap.size, 0, none⟩ 1 1 [.int .i64 (0)] rfl rfl (cell_one_new _ _ _) (by simp [Value.oneCell']) (by unfold maxLen; omega) (by omega) (by simp; omega) ?_; intro v' w1 hown' hgrow _)
          have hb1 := (hb.alloc hsz (.cells #[.int .i64 (0)] 3)).grown hgrow (by simp; omega) (fun q e => (hown.lt q e).1)
          clear hgrow hown hb
          go_wp2
          go_roundw
          case rel => exact ⟨k + 1, by omega, by go_num, Hos.out, by rw [Hvs.out, List.map_append, List.map_singleton, hmx]; exact hown', hb1⟩
          case measure => simp [intOf]; omega
      · have e1 : (((r[k]?.getD []).length : Int) == 1) = false := by simp; omega
        have HX := Lib.hid (exit37 HG0.out hs0 HZ0.out hL (values_stop Hone.out (Or.inr h1)) hown hb)
        generalize (r[k]?.getD []).length = m at *
        clear h1 Hin2 Hone hown hb
        have hm : min 5 r.length = 5 := by omega
        have HMn := Lib.hid hm
        clear hm
        obtain ⟨hG, hR, a3, cap3, rfl, hcap3, hin3⟩ := HX.out
        have hsz2 : w.heap.size < wr.heap.size := (Array.getElem?_eq_some_iff.1 hR).1
        obtain ⟨b3, off3, rfl, hb1, hb2, hc3⟩ := hin3 (by omega)
        have c0 := hc3 0 (by omega)
        have c1 := hc3 1 (by omega)
        have c2 := hc3 2 (by omega)
        have c3 := hc3 3 (by omega)
        have c4 := hc3 4 (by omega)
        rw [hv0] at c0
        rw [hv1] at c1
        rw [hv2] at c2
        rw [hv3] at c3
        rw [hv4] at c4
        simp only [Nat.add_zero] at c0
        clear hc3 hin3
        have hl1 : (1 : Int) < (L : Int) := by omega
        have hl2 : (2 : Int) < (L : Int) := by omega
        have hl3 : (3 : Int) < (L : Int) := by omega
        have hl4 : (4 : Int) < (L : Int) := by omega
        have hn1 : ¬ b3 = w.heap.size := by omega
        have hn2 : ¬ w.heap.size = b3 := by omega
        have z0 := (cell_of_row wr w.heap.size 0 _ 26 (0, 0) hR).trans (show _ = some (.int .i64 0) from rfl)
        have f0 := frozen_of_row wr w.heap.size 0 _ 26 hR
        have z1 := (cell_of_row wr w.heap.size 1 _ 26 (0, 0) hR).trans (show _ = some (.int .i64 0) from rfl)
        have f1 := frozen_of_row wr w.heap.size 1 _ 26 hR
        have z2 := (cell_of_row wr w.heap.size 2 _ 26 (0, 0) hR).trans (show _ = some (.int .i64 0) from rfl)
        have f2 := frozen_of_row wr w.heap.size 2 _ 26 hR
        have z3 := (cell_of_row wr w.heap.size 3 _ 26 (0, 0) hR).trans (show _ = some (.int .i64 0) from rfl)
        have f3 := frozen_of_row wr w.heap.size 3 _ 26 hR
        have z4 := (cell_of_row wr w.heap.size 4 _ 26 (0, 0) hR).trans (show _ = some (.int .i64 0) from rfl)
        have f4 := frozen_of_row wr w.heap.size 4 _ 26 hR
        have z5 := (cell_of_row wr w.heap.size 5 _ 26 (0, 0) hR).trans (show _ = some (.string ⟨#[]⟩) from rfl)
        have f5 := frozen_of_row wr w.heap.size 5 _ 26 hR
        have HGx := Lib.hid hG
        have HR := Lib.hid hR
        clear hG hR HX HcA hcap3
        generalize r.length = n at *
        go_wp2_with (go_at_call 68; (with_reducible refine (which_any _ _).mono ?_); rintro e w' ⟨rfl, h2, d2, rfl⟩)
        refine wp_region_held_drew (S := fun w' => w'.cell? ⟨b3, off3 + 1, none⟩ = some (.int .i64 2) ∧ w'.cell? ⟨b3, off3 + 2, none⟩ = some (.int .i64 v2) ∧ w'.cell? ⟨b3, off3 + 3, none⟩ = some (.int .i64 v3) ∧ w'.cell? ⟨b3, off3 + 4, none⟩ = some (.int .i64 v4)) (by kernel_rfl) ?_ (fun hHeld => ?_)
        · (simp [go_sem, hb2, c1, c2, c3, c4])
        refine wpAnyH_take (i := 0) (v := ?v228x19_0) rfl (by kernel_rfl) (by kernel_rfl) (by kernel_rfl) (fun _ _ _ h => h) (Or.inl ⟨by kernel_rfl, ?y228x19_0⟩) (by assumption) ?r228x19_0
        case y228x19_0 => ((intro w hSw; (try dsimp only at hSw); go_simp); (try with_reducible rfl))
        try simp only [Act.put, List.getElem_toArray, List.getElem_cons_zero, List.setIfInBounds_toArray, List.set_cons_zero, List.set_cons_succ]
        refine wpAnyH_take (i := 1) (v := ?v229x19_1) rfl (by kernel_rfl) (by kernel_rfl) (by kernel_rfl) (fun _ _ _ h => h) (Or.inl ⟨by kernel_rfl, ?y229x19_1⟩) (by assumption) ?r229x19_1
        case y229x19_1 => ((intro w hSw; (try dsimp only at hSw); go_simp); (try with_reducible rfl))
        try simp only [Act.put, List.getElem_toArray, List.getElem_cons_succ, List.getElem_cons_zero, List.setIfInBounds_toArray, List.set_cons_zero, List.set_cons_succ]
        refine wpAnyH_take (i := 2) (v := ?v230x19_2) rfl (by kernel_rfl) (by kernel_rfl) (by kernel_rfl) (fun _ _ _ h => h) (Or.inl ⟨by kernel_rfl, ?y230x19_2⟩) (by assumption) ?r230x19_2
        case y230x19_2 => ((intro w hSw; (try dsimp only at hSw); go_simp); (try with_reducible rfl))
        try simp only [Act.put, List.getElem_toArray, List.getElem_cons_succ, List.getElem_cons_zero, List.setIfInBounds_toArray, List.set_cons_zero, List.set_cons_succ]
        refine wpAnyH_take (i := 3) (v := ?v231x19_3) rfl (by kernel_rfl) (by kernel_rfl) (by kernel_rfl) (fun _ _ _ h => h) (Or.inl ⟨by kernel_rfl, ?y231x19_3⟩) (by assumption) ?r231x19_3
        case y231x19_3 => ((intro w hSw; (try dsimp only at hSw); go_simp); (try with_reducible rfl))
        try simp only [Act.put, List.getElem_toArray, List.getElem_cons_succ, List.getElem_cons_zero, List.setIfInBounds_toArray, List.set_cons_zero, List.set_cons_succ]
        refine wpAnyH_take (i := 4) (v := ?v232x19_4) rfl (by kernel_rfl) (by kernel_rfl) (by kernel_rfl) (fun _ _ _ h => h) (Or.inl ⟨by kernel_rfl, ?y232x19_4⟩) (by assumption) ?r232x19_4
        case y232x19_4 => ((intro w hSw; (try dsimp only at hSw); go_simp); (try with_reducible rfl))
        try simp only [Act.put, List.getElem_toArray, List.getElem_cons_succ, List.getElem_cons_zero, List.setIfInBounds_toArray, List.set_cons_zero, List.set_cons_succ]
        refine wpAnyH_take (i := 5) (v := ?v233x19_5) rfl (by kernel_rfl) (by kernel_rfl) (by kernel_rfl) (fun _ _ _ h => h) (Or.inl ⟨by kernel_rfl, ?y233x19_5⟩) (by assumption) ?r233x19_5
        case y233x19_5 => ((intro w hSw; (try dsimp only at hSw); go_simp); (try with_reducible rfl))
        try simp only [Act.put, List.getElem_toArray, List.getElem_cons_succ, List.getElem_cons_zero, List.setIfInBounds_toArray, List.set_cons_zero, List.set_cons_succ]
        refine wpAnyH_take (i := 6) (v := ?v234x19_6) rfl (by kernel_rfl) (by kernel_rfl) (by kernel_rfl) (fun _ _ _ h => h) (Or.inl ⟨by kernel_rfl, ?y234x19_6⟩) (by assumption) ?r234x19_6
        case y234x19_6 => ((intro w hSw; (try dsimp only at hSw); go_simp); (try with_reducible rfl))
        try simp only [Act.put, List.getElem_toArray, List.getElem_cons_succ, List.getElem_cons_zero, List.setIfInBounds_toArray, List.set_cons_zero, List.set_cons_succ]
        refine wpAnyH_take (i := 7) (v := ?v235x19_7) rfl (by kernel_rfl) (by kernel_rfl) (by kernel_rfl) (fun _ _ _ h => h) (Or.inl ⟨by kernel_rfl, ?y235x19_7⟩) (by assumption) ?r235x19_7
        case y235x19_7 => ((intro w hSw; (try dsimp only at hSw); go_simp); (try with_reducible rfl))
        try simp only [Act.put, List.getElem_toArray, List.getElem_cons_succ, List.getElem_cons_zero, List.setIfInBounds_toArray, List.set_cons_zero, List.set_cons_succ]
        refine wpAnyH_take (i := 8) (v := ?v236x19_8) rfl (by kernel_rfl) (by kernel_rfl) (by kernel_rfl) (fun _ _ _ h => h) (Or.inl ⟨by kernel_rfl, ?y236x19_8⟩) (by assumption) ?r236x19_8
        case y236x19_8 => ((intro w hSw; (try dsimp only at hSw); go_simp); (try with_reducible rfl))
        try simp only [Act.put, List.getElem_toArray, List.getElem_cons_succ, List.getElem_cons_zero, List.setIfInBounds_toArray, List.set_cons_zero, List.set_cons_succ]
        refine wpAnyH_take (i := 9) (v := ?v237x19_9) rfl (by kernel_rfl) (by kernel_rfl) (by kernel_rfl) (fun _ _ _ h => h) (Or.inl ⟨by kernel_rfl, ?y237x19_9⟩) (by assumption) ?r237x19_9
        case y237x19_9 => ((intro w hSw; (try dsimp only at hSw); go_simp); (try with_reducible rfl))
        try simp only [Act.put, List.getElem_toArray, List.getElem_cons_succ, List.getElem_cons_zero, List.setIfInBounds_toArray, List.set_cons_zero, List.set_cons_succ]
        refine wpAnyH_take (i := 10) (v := ?v238x19_10) rfl (by kernel_rfl) (by kernel_rfl) (by kernel_rfl) (fun _ _ _ h => h) (Or.inl ⟨by kernel_rfl, ?y238x19_10⟩) (by assumption) ?r238x19_10
        case y238x19_10 => ((intro w hSw; (try dsimp only at hSw); go_simp); (try with_reducible rfl))
        try simp only [Act.put, List.getElem_toArray, List.getElem_cons_succ, List.getElem_cons_zero, List.setIfInBounds_toArray, List.set_cons_zero, List.set_cons_succ]
        refine wpAnyH_take (i := 11) (v := ?v239x19_11) rfl (by kernel_rfl) (by kernel_rfl) (by kernel_rfl) (fun _ _ _ h => h) (Or.inl ⟨by kernel_rfl, ?y239x19_11⟩) (by assumption) ?r239x19_11
        case y239x19_11 => ((intro w hSw; (try dsimp only at hSw); go_simp); (try with_reducible rfl))
        try simp only [Act.put, List.getElem_toArray, List.getElem_cons_succ, List.getElem_cons_zero, List.setIfInBounds_toArray, List.set_cons_zero, List.set_cons_succ]
        refine wpAnyH_take (i := 12) (v := ?v240x19_12) rfl (by kernel_rfl) (by kernel_rfl) (by kernel_rfl) (fun _ _ _ h => h) (Or.inl ⟨by kernel_rfl, ?y240x19_12⟩) (by assumption) ?r240x19_12
        case y240x19_12 => ((intro w hSw; (try dsimp only at hSw); go_simp); (try with_reducible rfl))
        try simp only [Act.put, List.getElem_toArray, List.getElem_cons_succ, List.getElem_cons_zero, List.setIfInBounds_toArray, List.set_cons_zero, List.set_cons_succ]
        refine wpAnyH_take (i := 13) (v := ?v241x19_13) rfl (by kernel_rfl) (by kernel_rfl) (by kernel_rfl) (fun _ _ _ h => h) (Or.inl ⟨by kernel_rfl, ?y241x19_13⟩) (by assumption) ?r241x19_13
        case y241x19_13 => ((intro w hSw; (try dsimp only at hSw); go_simp); (try with_reducible rfl))
        try simp only [Act.put, List.getElem_toArray, List.getElem_cons_succ, List.getElem_cons_zero, List.setIfInBounds_toArray, List.set_cons_zero, List.set_cons_succ]
        refine wpAnyH_take (i := 14) (v := ?v242x19_14) rfl (by kernel_rfl) (by kernel_rfl) (by kernel_rfl) (fun _ _ _ h => h) (Or.inl ⟨by kernel_rfl, ?y242x19_14⟩) (by assumption) ?r242x19_14
        case y242x19_14 => ((intro w hSw; (try dsimp only at hSw); go_simp); (try with_reducible rfl))
        try simp only [Act.put, List.getElem_toArray, List.getElem_cons_succ, List.getElem_cons_zero, List.setIfInBounds_toArray, List.set_cons_zero, List.set_cons_succ]
        refine wpAnyH_take (i := 15) (v := ?v243x19_15) rfl (by kernel_rfl) (by kernel_rfl) (by kernel_rfl) (fun _ _ _ h => h) (Or.inl ⟨by kernel_rfl, ?y243x19_15⟩) (by assumption) ?r243x19_15
        case y243x19_15 => ((intro w hSw; (try dsimp only at hSw); go_simp); (try with_reducible rfl))
        try simp only [Act.put, List.getElem_toArray, List.getElem_cons_succ, List.getElem_cons_zero, List.setIfInBounds_toArray, List.set_cons_zero, List.set_cons_succ]
        refine wpAnyH_take (i := 16) (v := ?v244x19_16) rfl (by kernel_rfl) (by kernel_rfl) (by kernel_rfl) (fun _ _ _ h => h) (Or.inl ⟨by kernel_rfl, ?y244x19_16⟩) (by assumption) ?r244x19_16
        case y244x19_16 => ((intro w hSw; (try dsimp only at hSw); go_simp); (try with_reducible rfl))
        try simp only [Act.put, List.getElem_toArray, List.getElem_cons_succ, List.getElem_cons_zero, List.setIfInBounds_toArray, List.set_cons_zero, List.set_cons_succ]
        refine wpAnyH_take (i := 17) (v := ?v245x19_17) rfl (by kernel_rfl) (by kernel_rfl) (by kernel_rfl) (fun _ _ _ h => h) (Or.inl ⟨by kernel_rfl, ?y245x19_17⟩) (by assumption) ?r245x19_17
        case y245x19_17 => ((intro w hSw; (try dsimp only at hSw); go_simp); (try with_reducible rfl))
        try simp only [Act.put, List.getElem_toArray, List.getElem_cons_succ, List.getElem_cons_zero, List.setIfInBounds_toArray, List.set_cons_zero, List.set_cons_succ]
        refine wpAnyH_take (i := 18) (v := ?v246x19_18) rfl (by kernel_rfl) (by kernel_rfl) (by kernel_rfl) (fun _ _ _ h => h) (Or.inl ⟨by kernel_rfl, ?y246x19_18⟩) (by assumption) ?r246x19_18
        case y246x19_18 => ((intro w hSw; (try dsimp only at hSw); go_simp); (try with_reducible rfl))
        try simp only [Act.put, List.getElem_toArray, List.getElem_cons_succ, List.getElem_cons_zero, List.setIfInBounds_toArray, List.set_cons_zero, List.set_cons_succ]
        refine wpAnyH_ready (rs := [19]) (by kernel_rfl) (by simp) ?_
        refine AllReadyH.cons rfl (fun K hK => ?_) AllReadyH.nil
        simp only [List.getElem_toArray, List.getElem_cons_succ, List.getElem_cons_zero]
        go_simp
        skip
        refine hK.out _ _ ?_ ?_
        · ((try dsimp only); simp [go_sem, hb2, c1, c2, c3, c4])
        clear hK K hHeld
        intro hHeld
        try simp only [Act.put, List.getElem_toArray, List.getElem_cons_succ, List.getElem_cons_zero, List.setIfInBounds_toArray, List.set_cons_zero, List.set_cons_succ]
        refine wpAnyH_ready (rs := [20]) (by kernel_rfl) (by simp) ?_
        refine AllReadyH.cons rfl (fun K hK => ?_) AllReadyH.nil
        simp only [List.getElem_toArray, List.getElem_cons_succ, List.getElem_cons_zero]
        go_simp
        (go_at_call 69; (with_reducible refine (HWI.out _ _ ?hi69_19).mono ?hm69_19); (case hi69_19 => exact told_at3 (by simp) v2 v3 v4); rintro e w' ⟨rfl, rfl⟩)
        refine hK.out _ _ ?_ ?_
        · ((try dsimp only); simp [go_sem, hb2, c1, c2, c3, c4])
        clear hK K hHeld
        intro hHeld
        try simp only [Act.put, List.getElem_toArray, List.getElem_cons_succ, List.getElem_cons_zero, List.setIfInBounds_toArray, List.set_cons_zero, List.set_cons_succ]
        refine wpAnyH_take (i := 21) (v := ?v249x19_21) rfl (by kernel_rfl) (by kernel_rfl) (by kernel_rfl) (fun _ _ _ h => h) (Or.inl ⟨by kernel_rfl, ?y249x19_21⟩) (by assumption) ?r249x19_21
        case y249x19_21 => ((intro w hSw; (try dsimp only at hSw); go_simp); (try with_reducible rfl))
        try simp only [Act.put, List.getElem_toArray, List.getElem_cons_succ, List.getElem_cons_zero, List.setIfInBounds_toArray, List.set_cons_zero, List.set_cons_succ]
        refine wpAnyH_done (by kernel_rfl) ?_ _
        clear hHeld
        go_wp2_with fail
        refine bodyPost_ret (res37 (N := w.heap.size) (row := #[.int .i64 (0), .int .i64 (0), .int .i64 (0), .int .i64 (0), .int .i64 (0), .string ⟨#[]⟩]) ?hw37_19 rfl rfl rfl rfl) rfl ⟨(by rw [HMn.out]; rfl), (by repeat' (first | (with_reducible exact HGx.out) | (with_reducible exact Grows.refl _) | (with_reducible refine Grows.setCell ?_ (Nat.le_refl _) _) | (with_reducible refine Grows.alloc ?_ _) | (with_reducible refine Grows.drew ?_) | (with_reducible refine Grows.ext ?_ _ _)))⟩
        case hw37_19 => exact Grows.rowK (set6 HR.out) (by repeat' (first | (with_reducible exact Grows.refl _) | (with_reducible refine Grows.alloc ?_ _) | (with_reducible refine Grows.drew ?_) | (with_reducible refine Grows.ext ?_ _ _)))
    · have e2 : decide (k < r.length) = false := by simpa using hlt
      have HX := Lib.hid (exit37 HG0.out hs0 HZ0.out hL (values_stop Hone.out (Or.inl (by omega))) hown hb)
      clear Hone hown hb
      have hm : min 5 r.length = 5 := by omega
      have HMn := Lib.hid hm
      clear hm
      obtain ⟨hG, hR, a3, cap3, rfl, hcap3, hin3⟩ := HX.out
      have hsz2 : w.heap.size < wr.heap.size := (Array.getElem?_eq_some_iff.1 hR).1
      obtain ⟨b3, off3, rfl, hb1, hb2, hc3⟩ := hin3 (by omega)
      have c0 := hc3 0 (by omega)
      have c1 := hc3 1 (by omega)
      have c2 := hc3 2 (by omega)
      have c3 := hc3 3 (by omega)
      have c4 := hc3 4 (by omega)
      rw [hv0] at c0
      rw [hv1] at c1
      rw [hv2] at c2
      rw [hv3] at c3
      rw [hv4] at c4
      simp only [Nat.add_zero] at c0
      clear hc3 hin3
      have hl1 : (1 : Int) < (L : Int) := by omega
      have hl2 : (2 : Int) < (L : Int) := by omega
      have hl3 : (3 : Int) < (L : Int) := by omega
      have hl4 : (4 : Int) < (L : Int) := by omega
      have hn1 : ¬ b3 = w.heap.size := by omega
      have hn2 : ¬ w.heap.size = b3 := by omega
      have z0 := (cell_of_row wr w.heap.size 0 _ 26 (0, 0) hR).trans (show _ = some (.int .i64 0) from rfl)
      have f0 := frozen_of_row wr w.heap.size 0 _ 26 hR
      have z1 := (cell_of_row wr w.heap.size 1 _ 26 (0, 0) hR).trans (show _ = some (.int .i64 0) from rfl)
      have f1 := frozen_of_row wr w.heap.size 1 _ 26 hR
      have z2 := (cell_of_row wr w.heap.size 2 _ 26 (0, 0) hR).trans (show _ = some (.int .i64 0) from rfl)
      have f2 := frozen_of_row wr w.heap.size 2 _ 26 hR
      have z3 := (cell_of_row wr w.heap.size 3 _ 26 (0, 0) hR).trans (show _ = some (.int .i64 0) from rfl)
      have f3 := frozen_of_row wr w.heap.size 3 _ 26 hR
      have z4 := (cell_of_row wr w.heap.size 4 _ 26 (0, 0) hR).trans (show _ = some (.int .i64 0) from rfl)
      have f4 := frozen_of_row wr w.heap.size 4 _ 26 hR
      have z5 := (cell_of_row wr w.heap.size 5 _ 26 (0, 0) hR).trans (show _ = some (.string ⟨#[]⟩) from rfl)
      have f5 := frozen_of_row wr w.heap.size 5 _ 26 hR
      have HGx := Lib.hid hG
      have HR := Lib.hid hR
      clear hG hR HX HcA hcap3
      generalize r.length = n at *
      go_wp2_with (go_at_call 68; (with_reducible refine (which_any _ _).mono ?_); rintro e w' ⟨rfl, h2, d2, rfl⟩)
      refine wp_region_held_drew (S := fun w' => w'.cell? ⟨b3, off3 + 1, none⟩ = some (.int .i64 2) ∧ w'.cell? ⟨b3, off3 + 2, none⟩ = some (.int .i64 v2) ∧ w'.cell? ⟨b3, off3 + 3, none⟩ = some (.int .i64 v3) ∧ w'.cell? ⟨b3, off3 + 4, none⟩ = some (.int .i64 v4)) (by kernel_rfl) ?_ (fun hHeld => ?_)
      · (simp [go_sem, hb2, c1, c2, c3, c4])
      refine wpAnyH_take (i := 0) (v := ?v228x20_0) rfl (by kernel_rfl) (by kernel_rfl) (by kernel_rfl) (fun _ _ _ h => h) (Or.inl ⟨by kernel_rfl, ?y228x20_0⟩) (by assumption) ?r228x20_0
      case y228x20_0 => ((intro w hSw; (try dsimp only at hSw); go_simp); (try with_reducible rfl))
      try simp only [Act.put, List.getElem_toArray, List.getElem_cons_zero, List.setIfInBounds_toArray, List.set_cons_zero, List.set_cons_succ]
      refine wpAnyH_take (i := 1) (v := ?v229x20_1) rfl (by kernel_rfl) (by kernel_rfl) (by kernel_rfl) (fun _ _ _ h => h) (Or.inl ⟨by kernel_rfl, ?y229x20_1⟩) (by assumption) ?r229x20_1
      case y229x20_1 => ((intro w hSw; (try dsimp only at hSw); go_simp); (try with_reducible rfl))
      try simp only [Act.put, List.getElem_toArray, List.getElem_cons_succ, List.getElem_cons_zero, List.setIfInBounds_toArray, List.set_cons_zero, List.set_cons_succ]
      refine wpAnyH_take (i := 2) (v := ?v230x20_2) rfl (by kernel_rfl) (by kernel_rfl) (by kernel_rfl) (fun _ _ _ h => h) (Or.inl ⟨by kernel_rfl, ?y230x20_2⟩) (by assumption) ?r230x20_2
      case y230x20_2 => ((intro w hSw; (try dsimp only at hSw); go_simp); (try with_reducible rfl))
      try simp only [Act.put, List.getElem_toArray, List.getElem_cons_succ, List.getElem_cons_zero, List.setIfInBounds_toArray, List.set_cons_zero, List.set_cons_succ]
      refine wpAnyH_take (i := 3) (v := ?v231x20_3) rfl (by kernel_rfl) (by kernel_rfl) (by kernel_rfl) (fun _ _ _ h => h) (Or.inl ⟨by kernel_rfl, ?y231x20_3⟩) (by assumption) ?r231x20_3
      case y231x20_3 => ((intro w hSw; (try dsimp only at hSw); go_simp); (try with_reducible rfl))
      try simp only [Act.put, List.getElem_toArray, List.getElem_cons_succ, List.getElem_cons_zero, List.setIfInBounds_toArray, List.set_cons_zero, List.set_cons_succ]
      refine wpAnyH_take (i := 4) (v := ?v232x20_4) rfl (by kernel_rfl) (by kernel_rfl) (by kernel_rfl) (fun _ _ _ h => h) (Or.inl ⟨by kernel_rfl, ?y232x20_4⟩) (by assumption) ?r232x20_4
      case y232x20_4 => ((intro w hSw; (try dsimp only at hSw); go_simp); (try with_reducible rfl))
      try simp only [Act.put, List.getElem_toArray, List.getElem_cons_succ, List.getElem_cons_zero, List.setIfInBounds_toArray, List.set_cons_zero, List.set_cons_succ]
      refine wpAnyH_take (i := 5) (v := ?v233x20_5) rfl (by kernel_rfl) (by kernel_rfl) (by kernel_rfl) (fun _ _ _ h => h) (Or.inl ⟨by kernel_rfl, ?y233x20_5⟩) (by assumption) ?r233x20_5
      case y233x20_5 => ((intro w hSw; (try dsimp only at hSw); go_simp); (try with_reducible rfl))
      try simp only [Act.put, List.getElem_toArray, List.getElem_cons_succ, List.getElem_cons_zero, List.setIfInBounds_toArray, List.set_cons_zero, List.set_cons_succ]
      refine wpAnyH_take (i := 6) (v := ?v234x20_6) rfl (by kernel_rfl) (by kernel_rfl) (by kernel_rfl) (fun _ _ _ h => h) (Or.inl ⟨by kernel_rfl, ?y234x20_6⟩) (by assumption) ?r234x20_6
      case y234x20_6 => ((intro w hSw; (try dsimp only at hSw); go_simp); (try with_reducible rfl))
      try simp only [Act.put, List.getElem_toArray, List.getElem_cons_succ, List.getElem_cons_zero, List.setIfInBounds_toArray, List.set_cons_zero, List.set_cons_succ]
      refine wpAnyH_take (i := 7) (v := ?v235x20_7) rfl (by kernel_rfl) (by kernel_rfl) (by kernel_rfl) (fun _ _ _ h => h) (Or.inl ⟨by kernel_rfl, ?y235x20_7⟩) (by assumption) ?r235x20_7
      case y235x20_7 => ((intro w hSw; (try dsimp only at hSw); go_simp); (try with_reducible rfl))
      try simp only [Act.put, List.getElem_toArray, List.getElem_cons_succ, List.getElem_cons_zero, List.setIfInBounds_toArray, List.set_cons_zero, List.set_cons_succ]
      refine wpAnyH_take (i := 8) (v := ?v236x20_8) rfl (by kernel_rfl) (by kernel_rfl) (by kernel_rfl) (fun _ _ _ h => h) (Or.inl ⟨by kernel_rfl, ?y236x20_8⟩) (by assumption) ?r236x20_8
      case y236x20_8 => ((intro w hSw; (try dsimp only at hSw); go_simp); (try with_reducible rfl))
      try simp only [Act.put, List.getElem_toArray, List.getElem_cons_succ, List.getElem_cons_zero, List.setIfInBounds_toArray, List.set_cons_zero, List.set_cons_succ]
      refine wpAnyH_take (i := 9) (v := ?v237x20_9) rfl (by kernel_rfl) (by kernel_rfl) (by kernel_rfl) (fun _ _ _ h => h) (Or.inl ⟨by kernel_rfl, ?y237x20_9⟩) (by assumption) ?r237x20_9
      case y237x20_9 => ((intro w hSw; (try dsimp only at hSw); go_simp); (try with_reducible rfl))
      try simp only [Act.put, List.getElem_toArray, List.getElem_cons_succ, List.getElem_cons_zero, List.setIfInBounds_toArray, List.set_cons_zero, List.set_cons_succ]
      refine wpAnyH_take (i := 10) (v := ?v238x20_10) rfl (by kernel_rfl) (by kernel_rfl) (by kernel_rfl) (fun _ _ _ h => h) (Or.inl ⟨by kernel_rfl, ?y238x20_10⟩) (by assumption) ?r238x20_10
      case y238x20_10 => ((intro w hSw; (try dsimp only at hSw); go_simp); (try with_reducible rfl))
      try simp only [Act.put, List.getElem_toArray, List.getElem_cons_succ, List.getElem_cons_zero, List.setIfInBounds_toArray, List.set_cons_zero, List.set_cons_succ]
      refine wpAnyH_take (i := 11) (v := ?v239x20_11) rfl (by kernel_rfl) (by kernel_rfl) (by kernel_rfl) (fun _ _ _ h => h) (Or.inl ⟨by kernel_rfl, ?y239x20_11⟩) (by assumption) ?r239x20_11
      case y239x20_11 => ((intro w hSw; (try dsimp only at hSw); go_simp); (try with_reducible rfl))
      try simp only [Act.put, List.getElem_toArray, List.getElem_cons_succ, List.getElem_cons_zero, List.setIfInBounds_toArray, List.set_cons_zero, List.set_cons_succ]
      refine wpAnyH_take (i := 12) (v := ?v240x20_12) rfl (by kernel_rfl) (by kernel_rfl) (by kernel_rfl) (fun _ _ _ h => h) (Or.inl ⟨by kernel_rfl, ?y240x20_12⟩) (by assumption) ?r240x20_12
      case y240x20_12 => ((intro w hSw; (try dsimp only at hSw); go_simp); (try with_reducible rfl))
      try simp only [Act.put, List.getElem_toArray, List.getElem_cons_succ, List.getElem_cons_zero, List.setIfInBounds_toArray, List.set_cons_zero, List.set_cons_succ]
      refine wpAnyH_take (i := 13) (v := ?v241x20_13) rfl (by kernel_rfl) (by kernel_rfl) (by kernel_rfl) (fun _ _ _ h => h) (Or.inl ⟨by kernel_rfl, ?y241x20_13⟩) (by assumption) ?r241x20_13
      case y241x20_13 => ((intro w hSw; (try dsimp only at hSw); go_simp); (try with_reducible rfl))
      try simp only [Act.put, List.getElem_toArray, List.getElem_cons_succ, List.getElem_cons_zero, List.setIfInBounds_toArray, List.set_cons_zero, List.set_cons_succ]
      refine wpAnyH_take (i := 14) (v := ?v242x20_14) rfl (by kernel_rfl) (by kernel_rfl) (by kernel_rfl) (fun _ _ _ h => h) (Or.inl ⟨by kernel_rfl, ?y242x20_14⟩) (by assumption) ?r242x20_14
      case y242x20_14 => ((intro w hSw; (try dsimp only at hSw); go_simp); (try with_reducible rfl))
      try simp only [Act.put, List.getElem_toArray, List.getElem_cons_succ, List.getElem_cons_zero, List.setIfInBounds_toArray, List.set_cons_zero, List.set_cons_succ]
      refine wpAnyH_take (i := 15) (v := ?v243x20_15) rfl (by kernel_rfl) (by kernel_rfl) (by kernel_rfl) (fun _ _ _ h => h) (Or.inl ⟨by kernel_rfl, ?y243x20_15⟩) (by assumption) ?r243x20_15
      case y243x20_15 => ((intro w hSw; (try dsimp only at hSw); go_simp); (try with_reducible rfl))
      try simp only [Act.put, List.getElem_toArray, List.getElem_cons_succ, List.getElem_cons_zero, List.setIfInBounds_toArray, List.set_cons_zero, List.set_cons_succ]
      refine wpAnyH_take (i := 16) (v := ?v244x20_16) rfl (by kernel_rfl) (by kernel_rfl) (by kernel_rfl) (fun _ _ _ h => h) (Or.inl ⟨by kernel_rfl, ?y244x20_16⟩) (by assumption) ?r244x20_16
      case y244x20_16 => ((intro w hSw; (try dsimp only at hSw); go_simp); (try with_reducible rfl))
      try simp only [Act.put, List.getElem_toArray, List.getElem_cons_succ, List.getElem_cons_zero, List.setIfInBounds_toArray, List.set_cons_zero, List.set_cons_succ]
      refine wpAnyH_take (i := 17) (v := ?v245x20_17) rfl (by kernel_rfl) (by kernel_rfl) (by kernel_rfl) (fun _ _ _ h => h) (Or.inl ⟨by kernel_rfl, ?y245x20_17⟩) (by assumption) ?r245x20_17
      case y245x20_17 => ((intro w hSw; (try dsimp only at hSw); go_simp); (try with_reducible rfl))
      try simp only [Act.put, List.getElem_toArray, List.getElem_cons_succ, List.getElem_cons_zero, List.setIfInBounds_toArray, List.set_cons_zero, List.set_cons_succ]
      refine wpAnyH_take (i := 18) (v := ?v246x20_18) rfl (by kernel_rfl) (by kernel_rfl) (by kernel_rfl) (fun _ _ _ h => h) (Or.inl ⟨by kernel_rfl, ?y246x20_18⟩) (by assumption) ?r246x20_18
      case y246x20_18 => ((intro w hSw; (try dsimp only at hSw); go_simp); (try with_reducible rfl))
      try simp only [Act.put, List.getElem_toArray, List.getElem_cons_succ, List.getElem_cons_zero, List.setIfInBounds_toArray, List.set_cons_zero, List.set_cons_succ]
      refine wpAnyH_ready (rs := [19]) (by kernel_rfl) (by simp) ?_
      refine AllReadyH.cons rfl (fun K hK => ?_) AllReadyH.nil
      simp only [List.getElem_toArray, List.getElem_cons_succ, List.getElem_cons_zero]
      go_simp
      skip
      refine hK.out _ _ ?_ ?_
      · ((try dsimp only); simp [go_sem, hb2, c1, c2, c3, c4])
      clear hK K hHeld
      intro hHeld
      try simp only [Act.put, List.getElem_toArray, List.getElem_cons_succ, List.getElem_cons_zero, List.setIfInBounds_toArray, List.set_cons_zero, List.set_cons_succ]
      refine wpAnyH_ready (rs := [20]) (by kernel_rfl) (by simp) ?_
      refine AllReadyH.cons rfl (fun K hK => ?_) AllReadyH.nil
      simp only [List.getElem_toArray, List.getElem_cons_succ, List.getElem_cons_zero]
      go_simp
      (go_at_call 69; (with_reducible refine (HWI.out _ _ ?hi69_20).mono ?hm69_20); (case hi69_20 => exact told_at3 (by simp) v2 v3 v4); rintro e w' ⟨rfl, rfl⟩)
      refine hK.out _ _ ?_ ?_
      · ((try dsimp only); simp [go_sem, hb2, c1, c2, c3, c4])
      clear hK K hHeld
      intro hHeld
      try simp only [Act.put, List.getElem_toArray, List.getElem_cons_succ, List.getElem_cons_zero, List.setIfInBounds_toArray, List.set_cons_zero, List.set_cons_succ]
      refine wpAnyH_take (i := 21) (v := ?v249x20_21) rfl (by kernel_rfl) (by kernel_rfl) (by kernel_rfl) (fun _ _ _ h => h) (Or.inl ⟨by kernel_rfl, ?y249x20_21⟩) (by assumption) ?r249x20_21
      case y249x20_21 => ((intro w hSw; (try dsimp only at hSw); go_simp); (try with_reducible rfl))
      try simp only [Act.put, List.getElem_toArray, List.getElem_cons_succ, List.getElem_cons_zero, List.setIfInBounds_toArray, List.set_cons_zero, List.set_cons_succ]
      refine wpAnyH_done (by kernel_rfl) ?_ _
      clear hHeld
      go_wp2_with fail
      refine bodyPost_ret (res37 (N := w.heap.size) (row := #[.int .i64 (0), .int .i64 (0), .int .i64 (0), .int .i64 (0), .int .i64 (0), .string ⟨#[]⟩]) ?hw37_20 rfl rfl rfl rfl) rfl ⟨(by rw [HMn.out]; rfl), (by repeat' (first | (with_reducible exact HGx.out) | (with_reducible exact Grows.refl _) | (with_reducible refine Grows.setCell ?_ (Nat.le_refl _) _) | (with_reducible refine Grows.alloc ?_ _) | (with_reducible refine Grows.drew ?_) | (with_reducible refine Grows.ext ?_ _ _)))⟩
      case hw37_20 => exact Grows.rowK (set6 HR.out) (by repeat' (first | (with_reducible exact Grows.refl _) | (with_reducible refine Grows.alloc ?_ _) | (with_reducible refine Grows.drew ?_) | (with_reducible refine Grows.ext ?_ _ _)))
set_option maxRecDepth 100000 in
set_option maxHeartbeats 8000000 in
theorem front37_c (v : Value) (r : List (List Int)) (hl : r.length ≤ 1000) (hr0 : r ≠ []) (w : World) (h : RowAt w v r) (q : Pen × Bool) (L : Nat) (hL : (valuesL r).length = L) (v0 : Int) (hv0 : (valuesL r)[0]?.getD 0 = v0) (v1 : Int) (hv1 : (valuesL r)[1]?.getD 0 = v1) (v2 : Int) (hv2 : (valuesL r)[2]?.getD 0 = v2) (v3 : Int) (hv3 : (valuesL r)[3]?.getD 0 = v3) (v4 : Int) (hv4 : (valuesL r)[4]?.getD 0 = v4) (_h2 : 2 ≤ L) (hw : 0 ≤ whichV v0) (h3 : 5 ≤ L) (h5 : v1 = 2) (hwi : withinL [v2, v3, v4] = true) (hq : q = (rgbP (whichV v0) v2 v3 v4, true)) : Calls Tryd.prog 37 #[v] w (Ret (.tuple #[.agg (ansC q), .bool q.2, .int .i64 5]) w) := by
  obtain ⟨a, cap, rfl, -, hin⟩ := h
  obtain ⟨i0, hi, hz0, hz1, hz2⟩ := info_parts infoInt
  obtain ⟨bA, offA, rfl, hbA, hcA⟩ := hin hr0
  have hrl0 : 0 < r.length := List.length_pos_iff.2 hr0
  subst hq
  simp only [ansC, if_true, colored, rgbP]
  have e38 : decide ((L : Int) ≥ 2) = true := by simp; omega
  have e44 : decide (whichV v0 ≥ 0) = true := by simpa using hw
  subst h5
  have e78 : decide ((L : Int) ≥ 5) = true := by simp; omega
  have HWI := Lib.hid fun v W (h : IntsAt W v [v2, v3, v4]) => rwithin_any v [v2, v3, v4] (by simp) W h
  rw [hwi] at HWI
  obtain ⟨r2, r3, r4⟩ : (0 ≤ v2 ∧ v2 ≤ 255) ∧ (0 ≤ v3 ∧ v3 ≤ 255) ∧ (0 ≤ v4 ∧ v4 ≤ 255) := by simpa [withinL] using hwi
  have HRG := Lib.hid fun W => rgb71_any (whichV v0) v2 v3 v4 r2 r3 r4 W
  have HcA := Lib.hid hcA
  clear hcA hin
  go_enter Tryd.func37, Tryd.ntmps37
  go_upto_region 1 with fail
  refine abs_worldM (fun W => W.heap.size = w.heap.size + 1 ∧ Grows w W ∧ W.heap[w.heap.size]? = some (.cells #[.int .i64 0, .int .i64 0, .int .i64 0, .int .i64 0, .int .i64 0, .string ⟨#[]⟩] 26 (0, 0))) ⟨by simp, (by repeat' (first | (with_reducible exact Grows.refl _) | (with_reducible refine Grows.alloc ?_ _) | (with_reducible refine Grows.drew ?_) | (with_reducible refine Grows.ext ?_ _ _))), heap_alloc_new w _⟩ ?_
  rintro W0 ⟨hs0, hG0, hZ0⟩
  have HZ0 := Lib.hid hZ0
  have HG0 := Lib.hid hG0
  clear hZ0 hG0
  go_wp2_with fail
  go_loopw [5, 6] (fun x i wr => ∃ (k : Nat), k ≤ r.length ∧ i = .int .i64 k ∧ (∀ p ∈ r.take k, p.length = 1) ∧ wr.ownsRow (w.heap.size + 1) 3 1 x k ((valuesL (r.take k)).map (.int .i64 ·)) ∧ Below (w.heap.size + 1) W0 wr) (fun _ i _ => r.length - (intOf i).toNat)
  case atStart => exact ⟨0, Nat.zero_le _, rfl, by simp, World.ownsRow_nil _ _ _ _, Below.refl _ _⟩
  case round =>
    obtain ⟨k, hk, rfl, hone, hown, hb⟩ := hrel
    have hsz : w.heap.size + 1 ≤ wr.heap.size := by have := hb.size; omega
    have Hone := Lib.hid hone
    clear hone
    by_cases hlt : k < r.length
    · have e2 : decide (k < r.length) = true := by simpa using hlt
      obtain ⟨s, hs, a2, cap2, rfl, -, hin2⟩ := HcA.out k hlt
      have c0 := (hb.cell (p := ⟨bA, offA + k, none⟩) (by show bA < w.heap.size + 1; omega)).trans ((HG0.out.cellOf hbA).trans hs)
      have Hin2 := Lib.hid hin2
      have hbw : bA < wr.heap.size := by omega
      clear hs hin2
      by_cases h1 : (r[k]?.getD []).length = 1
      · have Hvs := Lib.hid (values_succ hlt Hone.out h1)
        have Hos := Lib.hid (ones_succ hlt Hone.out h1)
        generalize r[k]?.getD [] = p at *
        obtain ⟨x, rfl⟩ := List.length_eq_one_iff.1 h1
        obtain ⟨b2, off2, rfl, hb2, hc2⟩ := Hin2.out (by simp)
        have c1 := (hb.cell (p := ⟨b2, off2 + 0, none⟩) (by show b2 < w.heap.size + 1; omega)).trans ((HG0.out.cellOf hb2).trans (hc2 0 (by simp)))
        simp only [Nat.add_zero, List.length_singleton, List.getElem?_cons_zero, Option.getD_some] at c0 c1 Hvs
        have hbw2 : b2 < wr.heap.size := by omega
        clear Hin2 hc2 h1
        by_cases hx : 0 < x
        · have hmx : max 0 x = x := by omega
          go_wp2_with (at_builtin; refine wpList_append_own _ rfl (.tmp 25) (.tmp 34) 36 rfl (w.heap.size + 1) 3 i0 (.int .i64 0) 1 8 Tryd.underlying36 hi hz0 hz1 hz2 rfl (by decide) _ _ _ rfl (hown.alloc _) ⟨wr.heap.size, 0, none⟩ 1 1 [.int .i64 (x)] rfl rfl (cell_one_new _ _ _) (by simp [Value.oneCell']) (by unfold maxLen; omega) (by omega) (by simp; omega) ?_; intro v' w1 hown' hgrow _)
          have hb1 := (hb.alloc hsz (.cells #[.int .i64 (x)] 3)).grown hgrow (by simp; omega) (fun q e => (hown.lt q e).1)
          clear hgrow hown hb
          go_wp2
          go_roundw
          case rel => exact ⟨k + 1, by omega, by go_num, Hos.out, by rw [Hvs.out, List.map_append, List.map_singleton, hmx]; exact hown', hb1⟩
          case measure => simp [intOf]; omega
        · have hx' : x ≤ 0 := by omega
          have hmx : max 0 x = 0 := by omega
          go_wp2_with (at_builtin; refine wpList_append_own _ rfl (.tmp 25) (.tmp 34) 36 rfl (w.heap.size + 1) 3 i0 (.int .i64 0) 1 8 Tryd.underlying36 hi hz0 hz1 hz2 rfl (by decide) _ _ _ rfl (hown.alloc _) ⟨wr.heap.size, 0, none⟩ 1 1 [.int .i64 (0)] rfl rfl (cell_one_new _ _ _) (by simp [Value.oneCell']) (by unfold maxLen; omega) (by omega) (by simp; omega) ?_; intro v' w1 hown' hgrow _)
          have hb1 := (hb.alloc hsz (.cells #[.int .i64 (0)] 3)).grown hgrow (by simp; omega) (fun q e => (hown.lt q e).1)
          clear hgrow hown hb
          go_wp2
          go_roundw
          case rel => exact ⟨k + 1, by omega, by go_num, Hos.out, by rw [Hvs.out, List.map_append, List.map_singleton, hmx]; exact hown', hb1⟩
          case measure => simp [intOf]; omega
      · have e1 : (((r[k]?.getD []).length : Int) == 1) = false := by simp; omega
        have HX := Lib.hid (exit37 HG0.out hs0 HZ0.out hL (values_stop Hone.out (Or.inr h1)) hown hb)
        generalize (r[k]?.getD []).length = m at *
        clear h1 Hin2 Hone hown hb
        obtain ⟨hG, hR, a3, cap3, rfl, hcap3, hin3⟩ := HX.out
        have hsz2 : w.heap.size < wr.heap.size := (Array.getElem?_eq_some_iff.1 hR).1
        obtain ⟨b3, off3, rfl, hb1, hb2, hc3⟩ := hin3 (by omega)
        have c0 := hc3 0 (by omega)
        have c1 := hc3 1 (by omega)
        have c2 := hc3 2 (by omega)
        have c3 := hc3 3 (by omega)
        have c4 := hc3 4 (by omega)
        rw [hv0] at c0
        rw [hv1] at c1
        rw [hv2] at c2
        rw [hv3] at c3
        rw [hv4] at c4
        simp only [Nat.add_zero] at c0
        clear hc3 hin3
        have hl1 : (1 : Int) < (L : Int) := by omega
        have hl2 : (2 : Int) < (L : Int) := by omega
        have hl3 : (3 : Int) < (L : Int) := by omega
        have hl4 : (4 : Int) < (L : Int) := by omega
        have hn1 : ¬ b3 = w.heap.size := by omega
        have hn2 : ¬ w.heap.size = b3 := by omega
        have z0 := (cell_of_row wr w.heap.size 0 _ 26 (0, 0) hR).trans (show _ = some (.int .i64 0) from rfl)
        have f0 := frozen_of_row wr w.heap.size 0 _ 26 hR
        have z1 := (cell_of_row wr w.heap.size 1 _ 26 (0, 0) hR).trans (show _ = some (.int .i64 0) from rfl)
        have f1 := frozen_of_row wr w.heap.size 1 _ 26 hR
        have z2 := (cell_of_row wr w.heap.size 2 _ 26 (0, 0) hR).trans (show _ = some (.int .i64 0) from rfl)
        have f2 := frozen_of_row wr w.heap.size 2 _ 26 hR
        have z3 := (cell_of_row wr w.heap.size 3 _ 26 (0, 0) hR).trans (show _ = some (.int .i64 0) from rfl)
        have f3 := frozen_of_row wr w.heap.size 3 _ 26 hR
        have z4 := (cell_of_row wr w.heap.size 4 _ 26 (0, 0) hR).trans (show _ = some (.int .i64 0) from rfl)
        have f4 := frozen_of_row wr w.heap.size 4 _ 26 hR
        have z5 := (cell_of_row wr w.heap.size 5 _ 26 (0, 0) hR).trans (show _ = some (.string ⟨#[]⟩) from rfl)
        have f5 := frozen_of_row wr w.heap.size 5 _ 26 hR
        have HGx := Lib.hid hG
        have HR := Lib.hid hR
        clear hG hR HX HcA hcap3
        go_wp2_with (go_at_call 68; (with_reducible refine (which_any _ _).mono ?_); rintro e w' ⟨rfl, h2, d2, rfl⟩)
        refine wp_region_held_drew (S := fun w' => w'.cell? ⟨b3, off3 + 1, none⟩ = some (.int .i64 2) ∧ w'.cell? ⟨b3, off3 + 2, none⟩ = some (.int .i64 v2) ∧ w'.cell? ⟨b3, off3 + 3, none⟩ = some (.int .i64 v3) ∧ w'.cell? ⟨b3, off3 + 4, none⟩ = some (.int .i64 v4)) (by kernel_rfl) ?_ (fun hHeld => ?_)
        · (simp [go_sem, hb2, c1, c2, c3, c4])
        refine wpAnyH_take (i := 0) (v := ?v250x21_0) rfl (by kernel_rfl) (by kernel_rfl) (by kernel_rfl) (fun _ _ _ h => h) (Or.inl ⟨by kernel_rfl, ?y250x21_0⟩) (by assumption) ?r250x21_0
        case y250x21_0 => ((intro w hSw; (try dsimp only at hSw); go_simp); (try with_reducible rfl))
        try simp only [Act.put, List.getElem_toArray, List.getElem_cons_zero, List.setIfInBounds_toArray, List.set_cons_zero, List.set_cons_succ]
        refine wpAnyH_take (i := 1) (v := ?v251x21_1) rfl (by kernel_rfl) (by kernel_rfl) (by kernel_rfl) (fun _ _ _ h => h) (Or.inl ⟨by kernel_rfl, ?y251x21_1⟩) (by assumption) ?r251x21_1
        case y251x21_1 => ((intro w hSw; (try dsimp only at hSw); go_simp); (try with_reducible rfl))
        try simp only [Act.put, List.getElem_toArray, List.getElem_cons_succ, List.getElem_cons_zero, List.setIfInBounds_toArray, List.set_cons_zero, List.set_cons_succ]
        refine wpAnyH_take (i := 2) (v := ?v252x21_2) rfl (by kernel_rfl) (by kernel_rfl) (by kernel_rfl) (fun _ _ _ h => h) (Or.inl ⟨by kernel_rfl, ?y252x21_2⟩) (by assumption) ?r252x21_2
        case y252x21_2 => ((intro w hSw; (try dsimp only at hSw); go_simp); (try with_reducible rfl))
        try simp only [Act.put, List.getElem_toArray, List.getElem_cons_succ, List.getElem_cons_zero, List.setIfInBounds_toArray, List.set_cons_zero, List.set_cons_succ]
        refine wpAnyH_take (i := 3) (v := ?v253x21_3) rfl (by kernel_rfl) (by kernel_rfl) (by kernel_rfl) (fun _ _ _ h => h) (Or.inl ⟨by kernel_rfl, ?y253x21_3⟩) (by assumption) ?r253x21_3
        case y253x21_3 => ((intro w hSw; (try dsimp only at hSw); go_simp); (try with_reducible rfl))
        try simp only [Act.put, List.getElem_toArray, List.getElem_cons_succ, List.getElem_cons_zero, List.setIfInBounds_toArray, List.set_cons_zero, List.set_cons_succ]
        refine wpAnyH_take (i := 4) (v := ?v254x21_4) rfl (by kernel_rfl) (by kernel_rfl) (by kernel_rfl) (fun _ _ _ h => h) (Or.inl ⟨by kernel_rfl, ?y254x21_4⟩) (by assumption) ?r254x21_4
        case y254x21_4 => ((intro w hSw; (try dsimp only at hSw); go_simp); (try with_reducible rfl))
        try simp only [Act.put, List.getElem_toArray, List.getElem_cons_succ, List.getElem_cons_zero, List.setIfInBounds_toArray, List.set_cons_zero, List.set_cons_succ]
        refine wpAnyH_take (i := 5) (v := ?v255x21_5) rfl (by kernel_rfl) (by kernel_rfl) (by kernel_rfl) (fun _ _ _ h => h) (Or.inl ⟨by kernel_rfl, ?y255x21_5⟩) (by assumption) ?r255x21_5
        case y255x21_5 => ((intro w hSw; (try dsimp only at hSw); go_simp); (try with_reducible rfl))
        try simp only [Act.put, List.getElem_toArray, List.getElem_cons_succ, List.getElem_cons_zero, List.setIfInBounds_toArray, List.set_cons_zero, List.set_cons_succ]
        refine wpAnyH_take (i := 6) (v := ?v256x21_6) rfl (by kernel_rfl) (by kernel_rfl) (by kernel_rfl) (fun _ _ _ h => h) (Or.inl ⟨by kernel_rfl, ?y256x21_6⟩) (by assumption) ?r256x21_6
        case y256x21_6 => ((intro w hSw; (try dsimp only at hSw); go_simp); (try with_reducible rfl))
        try simp only [Act.put, List.getElem_toArray, List.getElem_cons_succ, List.getElem_cons_zero, List.setIfInBounds_toArray, List.set_cons_zero, List.set_cons_succ]
        refine wpAnyH_take (i := 7) (v := ?v257x21_7) rfl (by kernel_rfl) (by kernel_rfl) (by kernel_rfl) (fun _ _ _ h => h) (Or.inl ⟨by kernel_rfl, ?y257x21_7⟩) (by assumption) ?r257x21_7
        case y257x21_7 => ((intro w hSw; (try dsimp only at hSw); go_simp); (try with_reducible rfl))
        try simp only [Act.put, List.getElem_toArray, List.getElem_cons_succ, List.getElem_cons_zero, List.setIfInBounds_toArray, List.set_cons_zero, List.set_cons_succ]
        refine wpAnyH_take (i := 8) (v := ?v258x21_8) rfl (by kernel_rfl) (by kernel_rfl) (by kernel_rfl) (fun _ _ _ h => h) (Or.inl ⟨by kernel_rfl, ?y258x21_8⟩) (by assumption) ?r258x21_8
        case y258x21_8 => ((intro w hSw; (try dsimp only at hSw); go_simp); (try with_reducible rfl))
        try simp only [Act.put, List.getElem_toArray, List.getElem_cons_succ, List.getElem_cons_zero, List.setIfInBounds_toArray, List.set_cons_zero, List.set_cons_succ]
        refine wpAnyH_take (i := 9) (v := ?v259x21_9) rfl (by kernel_rfl) (by kernel_rfl) (by kernel_rfl) (fun _ _ _ h => h) (Or.inl ⟨by kernel_rfl, ?y259x21_9⟩) (by assumption) ?r259x21_9
        case y259x21_9 => ((intro w hSw; (try dsimp only at hSw); go_simp); (try with_reducible rfl))
        try simp only [Act.put, List.getElem_toArray, List.getElem_cons_succ, List.getElem_cons_zero, List.setIfInBounds_toArray, List.set_cons_zero, List.set_cons_succ]
        refine wpAnyH_take (i := 10) (v := ?v260x21_10) rfl (by kernel_rfl) (by kernel_rfl) (by kernel_rfl) (fun _ _ _ h => h) (Or.inl ⟨by kernel_rfl, ?y260x21_10⟩) (by assumption) ?r260x21_10
        case y260x21_10 => ((intro w hSw; (try dsimp only at hSw); go_simp); (try with_reducible rfl))
        try simp only [Act.put, List.getElem_toArray, List.getElem_cons_succ, List.getElem_cons_zero, List.setIfInBounds_toArray, List.set_cons_zero, List.set_cons_succ]
        refine wpAnyH_take (i := 11) (v := ?v261x21_11) rfl (by kernel_rfl) (by kernel_rfl) (by kernel_rfl) (fun _ _ _ h => h) (Or.inl ⟨by kernel_rfl, ?y261x21_11⟩) (by assumption) ?r261x21_11
        case y261x21_11 => ((intro w hSw; (try dsimp only at hSw); go_simp); (try with_reducible rfl))
        try simp only [Act.put, List.getElem_toArray, List.getElem_cons_succ, List.getElem_cons_zero, List.setIfInBounds_toArray, List.set_cons_zero, List.set_cons_succ]
        refine wpAnyH_take (i := 12) (v := ?v262x21_12) rfl (by kernel_rfl) (by kernel_rfl) (by kernel_rfl) (fun _ _ _ h => h) (Or.inl ⟨by kernel_rfl, ?y262x21_12⟩) (by assumption) ?r262x21_12
        case y262x21_12 => ((intro w hSw; (try dsimp only at hSw); go_simp); (try with_reducible rfl))
        try simp only [Act.put, List.getElem_toArray, List.getElem_cons_succ, List.getElem_cons_zero, List.setIfInBounds_toArray, List.set_cons_zero, List.set_cons_succ]
        refine wpAnyH_take (i := 13) (v := ?v263x21_13) rfl (by kernel_rfl) (by kernel_rfl) (by kernel_rfl) (fun _ _ _ h => h) (Or.inl ⟨by kernel_rfl, ?y263x21_13⟩) (by assumption) ?r263x21_13
        case y263x21_13 => ((intro w hSw; (try dsimp only at hSw); go_simp); (try with_reducible rfl))
        try simp only [Act.put, List.getElem_toArray, List.getElem_cons_succ, List.getElem_cons_zero, List.setIfInBounds_toArray, List.set_cons_zero, List.set_cons_succ]
        refine wpAnyH_take (i := 14) (v := ?v264x21_14) rfl (by kernel_rfl) (by kernel_rfl) (by kernel_rfl) (fun _ _ _ h => h) (Or.inl ⟨by kernel_rfl, ?y264x21_14⟩) (by assumption) ?r264x21_14
        case y264x21_14 => ((intro w hSw; (try dsimp only at hSw); go_simp); (try with_reducible rfl))
        try simp only [Act.put, List.getElem_toArray, List.getElem_cons_succ, List.getElem_cons_zero, List.setIfInBounds_toArray, List.set_cons_zero, List.set_cons_succ]
        refine wpAnyH_take (i := 15) (v := ?v265x21_15) rfl (by kernel_rfl) (by kernel_rfl) (by kernel_rfl) (fun _ _ _ h => h) (Or.inl ⟨by kernel_rfl, ?y265x21_15⟩) (by assumption) ?r265x21_15
        case y265x21_15 => ((intro w hSw; (try dsimp only at hSw); go_simp); (try with_reducible rfl))
        try simp only [Act.put, List.getElem_toArray, List.getElem_cons_succ, List.getElem_cons_zero, List.setIfInBounds_toArray, List.set_cons_zero, List.set_cons_succ]
        refine wpAnyH_take (i := 16) (v := ?v266x21_16) rfl (by kernel_rfl) (by kernel_rfl) (by kernel_rfl) (fun _ _ _ h => h) (Or.inl ⟨by kernel_rfl, ?y266x21_16⟩) (by assumption) ?r266x21_16
        case y266x21_16 => ((intro w hSw; (try dsimp only at hSw); go_simp); (try with_reducible rfl))
        try simp only [Act.put, List.getElem_toArray, List.getElem_cons_succ, List.getElem_cons_zero, List.setIfInBounds_toArray, List.set_cons_zero, List.set_cons_succ]
        refine wpAnyH_take (i := 17) (v := ?v267x21_17) rfl (by kernel_rfl) (by kernel_rfl) (by kernel_rfl) (fun _ _ _ h => h) (Or.inl ⟨by kernel_rfl, ?y267x21_17⟩) (by assumption) ?r267x21_17
        case y267x21_17 => ((intro w hSw; (try dsimp only at hSw); go_simp); (try with_reducible rfl))
        try simp only [Act.put, List.getElem_toArray, List.getElem_cons_succ, List.getElem_cons_zero, List.setIfInBounds_toArray, List.set_cons_zero, List.set_cons_succ]
        refine wpAnyH_take (i := 18) (v := ?v268x21_18) rfl (by kernel_rfl) (by kernel_rfl) (by kernel_rfl) (fun _ _ _ h => h) (Or.inl ⟨by kernel_rfl, ?y268x21_18⟩) (by assumption) ?r268x21_18
        case y268x21_18 => ((intro w hSw; (try dsimp only at hSw); go_simp); (try with_reducible rfl))
        try simp only [Act.put, List.getElem_toArray, List.getElem_cons_succ, List.getElem_cons_zero, List.setIfInBounds_toArray, List.set_cons_zero, List.set_cons_succ]
        refine wpAnyH_ready (rs := [19]) (by kernel_rfl) (by simp) ?_
        refine AllReadyH.cons rfl (fun K hK => ?_) AllReadyH.nil
        simp only [List.getElem_toArray, List.getElem_cons_succ, List.getElem_cons_zero]
        go_simp
        skip
        refine hK.out _ _ ?_ ?_
        · ((try dsimp only); simp [go_sem, hb2, c1, c2, c3, c4])
        clear hK K hHeld
        intro hHeld
        try simp only [Act.put, List.getElem_toArray, List.getElem_cons_succ, List.getElem_cons_zero, List.setIfInBounds_toArray, List.set_cons_zero, List.set_cons_succ]
        refine wpAnyH_ready (rs := [20]) (by kernel_rfl) (by simp) ?_
        refine AllReadyH.cons rfl (fun K hK => ?_) AllReadyH.nil
        simp only [List.getElem_toArray, List.getElem_cons_succ, List.getElem_cons_zero]
        go_simp
        (go_at_call 69; (with_reducible refine (HWI.out _ _ ?hi69_21).mono ?hm69_21); (case hi69_21 => exact told_at3 (by simp) v2 v3 v4); rintro e w' ⟨rfl, rfl⟩)
        refine hK.out _ _ ?_ ?_
        · ((try dsimp only); simp [go_sem, hb2, c1, c2, c3, c4])
        clear hK K hHeld
        intro hHeld
        try simp only [Act.put, List.getElem_toArray, List.getElem_cons_succ, List.getElem_cons_zero, List.setIfInBounds_toArray, List.set_cons_zero, List.set_cons_succ]
        refine wpAnyH_take (i := 21) (v := ?v271x21_21) rfl (by kernel_rfl) (by kernel_rfl) (by kernel_rfl) (fun _ _ _ h => h) (Or.inl ⟨by kernel_rfl, ?y271x21_21⟩) (by assumption) ?r271x21_21
        case y271x21_21 => ((intro w hSw; (try dsimp only at hSw); go_simp); (try with_reducible rfl))
        try simp only [Act.put, List.getElem_toArray, List.getElem_cons_succ, List.getElem_cons_zero, List.setIfInBounds_toArray, List.set_cons_zero, List.set_cons_succ]
        refine wpAnyH_done (by kernel_rfl) ?_ _
        clear hHeld
        go_wp2_with fail
        refine wp_region_held_drew (S := fun w' => w'.cell? ⟨b3, off3 + 1, none⟩ = some (.int .i64 2) ∧ w'.cell? ⟨b3, off3 + 2, none⟩ = some (.int .i64 v2) ∧ w'.cell? ⟨b3, off3 + 3, none⟩ = some (.int .i64 v3) ∧ w'.cell? ⟨b3, off3 + 4, none⟩ = some (.int .i64 v4)) (by kernel_rfl) ?_ (fun hHeld => ?_)
        · (simp [go_sem, hb2, c1, c2, c3, c4])
        refine wpAnyH_take (i := 0) (v := ?v272x21_0) rfl (by kernel_rfl) (by kernel_rfl) (by kernel_rfl) (fun _ _ _ h => h) (Or.inl ⟨by kernel_rfl, ?y272x21_0⟩) (by assumption) ?r272x21_0
        case y272x21_0 => ((intro w hSw; (try dsimp only at hSw); go_simp); (try with_reducible rfl))
        try simp only [Act.put, List.getElem_toArray, List.getElem_cons_zero, List.setIfInBounds_toArray, List.set_cons_zero, List.set_cons_succ]
        refine wpAnyH_take (i := 1) (v := ?v273x21_1) rfl (by kernel_rfl) (by kernel_rfl) (by kernel_rfl) (fun _ _ _ h => h) (Or.inl ⟨by kernel_rfl, ?y273x21_1⟩) (by assumption) ?r273x21_1
        case y273x21_1 => ((intro w hSw; (try dsimp only at hSw); go_simp); (try with_reducible rfl))
        try simp only [Act.put, List.getElem_toArray, List.getElem_cons_succ, List.getElem_cons_zero, List.setIfInBounds_toArray, List.set_cons_zero, List.set_cons_succ]
        refine wpAnyH_take (i := 2) (v := ?v274x21_2) rfl (by kernel_rfl) (by kernel_rfl) (by kernel_rfl) (fun _ _ _ h => h) (Or.inl ⟨by kernel_rfl, ?y274x21_2⟩) (by assumption) ?r274x21_2
        case y274x21_2 => ((intro w hSw; (try dsimp only at hSw); go_simp); (try with_reducible rfl))
        try simp only [Act.put, List.getElem_toArray, List.getElem_cons_succ, List.getElem_cons_zero, List.setIfInBounds_toArray, List.set_cons_zero, List.set_cons_succ]
        refine wpAnyH_take (i := 3) (v := ?v275x21_3) rfl (by kernel_rfl) (by kernel_rfl) (by kernel_rfl) (fun _ _ _ h => h) (Or.inl ⟨by kernel_rfl, ?y275x21_3⟩) (by assumption) ?r275x21_3
        case y275x21_3 => ((intro w hSw; (try dsimp only at hSw); go_simp); (try with_reducible rfl))
        try simp only [Act.put, List.getElem_toArray, List.getElem_cons_succ, List.getElem_cons_zero, List.setIfInBounds_toArray, List.set_cons_zero, List.set_cons_succ]
        refine wpAnyH_take (i := 4) (v := ?v276x21_4) rfl (by kernel_rfl) (by kernel_rfl) (by kernel_rfl) (fun _ _ _ h => h) (Or.inl ⟨by kernel_rfl, ?y276x21_4⟩) (by assumption) ?r276x21_4
        case y276x21_4 => ((intro w hSw; (try dsimp only at hSw); go_simp); (try with_reducible rfl))
        try simp only [Act.put, List.getElem_toArray, List.getElem_cons_succ, List.getElem_cons_zero, List.setIfInBounds_toArray, List.set_cons_zero, List.set_cons_succ]
        refine wpAnyH_take (i := 5) (v := ?v277x21_5) rfl (by kernel_rfl) (by kernel_rfl) (by kernel_rfl) (fun _ _ _ h => h) (Or.inl ⟨by kernel_rfl, ?y277x21_5⟩) (by assumption) ?r277x21_5
        case y277x21_5 => ((intro w hSw; (try dsimp only at hSw); go_simp); (try with_reducible rfl))
        try simp only [Act.put, List.getElem_toArray, List.getElem_cons_succ, List.getElem_cons_zero, List.setIfInBounds_toArray, List.set_cons_zero, List.set_cons_succ]
        refine wpAnyH_take (i := 6) (v := ?v278x21_6) rfl (by kernel_rfl) (by kernel_rfl) (by kernel_rfl) (fun _ _ _ h => h) (Or.inl ⟨by kernel_rfl, ?y278x21_6⟩) (by assumption) ?r278x21_6
        case y278x21_6 => ((intro w hSw; (try dsimp only at hSw); go_simp); (try with_reducible rfl))
        try simp only [Act.put, List.getElem_toArray, List.getElem_cons_succ, List.getElem_cons_zero, List.setIfInBounds_toArray, List.set_cons_zero, List.set_cons_succ]
        refine wpAnyH_take (i := 7) (v := ?v279x21_7) rfl (by kernel_rfl) (by kernel_rfl) (by kernel_rfl) (fun _ _ _ h => h) (Or.inl ⟨by kernel_rfl, ?y279x21_7⟩) (by assumption) ?r279x21_7
        case y279x21_7 => ((intro w hSw; (try dsimp only at hSw); go_simp); (try with_reducible rfl))
        try simp only [Act.put, List.getElem_toArray, List.getElem_cons_succ, List.getElem_cons_zero, List.setIfInBounds_toArray, List.set_cons_zero, List.set_cons_succ]
        refine wpAnyH_take (i := 8) (v := ?v280x21_8) rfl (by kernel_rfl) (by kernel_rfl) (by kernel_rfl) (fun _ _ _ h => h) (Or.inl ⟨by kernel_rfl, ?y280x21_8⟩) (by assumption) ?r280x21_8
        case y280x21_8 => ((intro w hSw; (try dsimp only at hSw); go_simp); (try with_reducible rfl))
        try simp only [Act.put, List.getElem_toArray, List.getElem_cons_succ, List.getElem_cons_zero, List.setIfInBounds_toArray, List.set_cons_zero, List.set_cons_succ]
        refine wpAnyH_take (i := 9) (v := ?v281x21_9) rfl (by kernel_rfl) (by kernel_rfl) (by kernel_rfl) (fun _ _ _ h => h) (Or.inl ⟨by kernel_rfl, ?y281x21_9⟩) (by assumption) ?r281x21_9
        case y281x21_9 => ((intro w hSw; (try dsimp only at hSw); go_simp); (try with_reducible rfl))
        try simp only [Act.put, List.getElem_toArray, List.getElem_cons_succ, List.getElem_cons_zero, List.setIfInBounds_toArray, List.set_cons_zero, List.set_cons_succ]
        refine wpAnyH_ready (rs := [10]) (by kernel_rfl) (by simp) ?_
        refine AllReadyH.cons rfl (fun K hK => ?_) AllReadyH.nil
        simp only [List.getElem_toArray, List.getElem_cons_succ, List.getElem_cons_zero]
        go_simp
        (go_at_call 71; (with_reducible refine (HRG.out _).mono ?_); rintro e w' ⟨rfl, h6, d6, rfl⟩)
        refine hK.out _ _ ?_ ?_
        · ((try dsimp only); simp [go_sem, hb2, c1, c2, c3, c4])
        clear hK K hHeld
        intro hHeld
        try simp only [Act.put, List.getElem_toArray, List.getElem_cons_succ, List.getElem_cons_zero, List.setIfInBounds_toArray, List.set_cons_zero, List.set_cons_succ]
        refine wpAnyH_ready (rs := [11]) (by kernel_rfl) (by simp) ?_
        refine AllReadyH.cons rfl (fun K hK => ?_) AllReadyH.nil
        simp only [List.getElem_toArray, List.getElem_cons_succ, List.getElem_cons_zero]
        go_simp
        skip
        refine hK.out _ _ ?_ ?_
        · ((try dsimp only); simp [go_sem, hb2, c1, c2, c3, c4])
        clear hK K hHeld
        intro hHeld
        try simp only [Act.put, List.getElem_toArray, List.getElem_cons_succ, List.getElem_cons_zero, List.setIfInBounds_toArray, List.set_cons_zero, List.set_cons_succ]
        refine wpAnyH_take (i := 12) (v := ?v284x21_12) rfl (by kernel_rfl) (by kernel_rfl) (by kernel_rfl) (fun _ _ _ h => h) (Or.inl ⟨by kernel_rfl, ?y284x21_12⟩) (by assumption) ?r284x21_12
        case y284x21_12 => ((intro w hSw; (try dsimp only at hSw); go_simp); (try with_reducible rfl))
        try simp only [Act.put, List.getElem_toArray, List.getElem_cons_succ, List.getElem_cons_zero, List.setIfInBounds_toArray, List.set_cons_zero, List.set_cons_succ]
        refine wpAnyH_take (i := 13) (v := ?v285x21_13) rfl (by kernel_rfl) (by kernel_rfl) (by kernel_rfl) (fun _ _ _ h => h) (Or.inl ⟨by kernel_rfl, ?y285x21_13⟩) (by assumption) ?r285x21_13
        case y285x21_13 => ((intro w hSw; (try dsimp only at hSw); go_simp); (try with_reducible rfl))
        try simp only [Act.put, List.getElem_toArray, List.getElem_cons_succ, List.getElem_cons_zero, List.setIfInBounds_toArray, List.set_cons_zero, List.set_cons_succ]
        refine wpAnyH_done (by kernel_rfl) ?_ _
        clear hHeld
        go_wp2_with fail
        refine bodyPost_ret (res37 (N := w.heap.size) (row := #[.int .i64 (39), .int .i64 (whichV v0), .int .i64 (0), .int .i64 (2), .int .i64 (v2 * 65536 + v3 * 256 + v4), .string ⟨#[]⟩]) ?hw37_21 rfl rfl rfl rfl) rfl ⟨rfl, (by repeat' (first | (with_reducible exact HGx.out) | (with_reducible exact Grows.refl _) | (with_reducible refine Grows.setCell ?_ (Nat.le_refl _) _) | (with_reducible refine Grows.alloc ?_ _) | (with_reducible refine Grows.drew ?_) | (with_reducible refine Grows.ext ?_ _ _)))⟩
        case hw37_21 => exact Grows.rowK (set6 HR.out) (by repeat' (first | (with_reducible exact Grows.refl _) | (with_reducible refine Grows.alloc ?_ _) | (with_reducible refine Grows.drew ?_) | (with_reducible refine Grows.ext ?_ _ _)))
    · have e2 : decide (k < r.length) = false := by simpa using hlt
      have HX := Lib.hid (exit37 HG0.out hs0 HZ0.out hL (values_stop Hone.out (Or.inl (by omega))) hown hb)
      clear Hone hown hb
      obtain ⟨hG, hR, a3, cap3, rfl, hcap3, hin3⟩ := HX.out
      have hsz2 : w.heap.size < wr.heap.size := (Array.getElem?_eq_some_iff.1 hR).1
      obtain ⟨b3, off3, rfl, hb1, hb2, hc3⟩ := hin3 (by omega)
      have c0 := hc3 0 (by omega)
      have c1 := hc3 1 (by omega)
      have c2 := hc3 2 (by omega)
      have c3 := hc3 3 (by omega)
      have c4 := hc3 4 (by omega)
      rw [hv0] at c0
      rw [hv1] at c1
      rw [hv2] at c2
      rw [hv3] at c3
      rw [hv4] at c4
      simp only [Nat.add_zero] at c0
      clear hc3 hin3
      have hl1 : (1 : Int) < (L : Int) := by omega
      have hl2 : (2 : Int) < (L : Int) := by omega
      have hl3 : (3 : Int) < (L : Int) := by omega
      have hl4 : (4 : Int) < (L : Int) := by omega
      have hn1 : ¬ b3 = w.heap.size := by omega
      have hn2 : ¬ w.heap.size = b3 := by omega
      have z0 := (cell_of_row wr w.heap.size 0 _ 26 (0, 0) hR).trans (show _ = some (.int .i64 0) from rfl)
      have f0 := frozen_of_row wr w.heap.size 0 _ 26 hR
      have z1 := (cell_of_row wr w.heap.size 1 _ 26 (0, 0) hR).trans (show _ = some (.int .i64 0) from rfl)
      have f1 := frozen_of_row wr w.heap.size 1 _ 26 hR
      have z2 := (cell_of_row wr w.heap.size 2 _ 26 (0, 0) hR).trans (show _ = some (.int .i64 0) from rfl)
      have f2 := frozen_of_row wr w.heap.size 2 _ 26 hR
      have z3 := (cell_of_row wr w.heap.size 3 _ 26 (0, 0) hR).trans (show _ = some (.int .i64 0) from rfl)
      have f3 := frozen_of_row wr w.heap.size 3 _ 26 hR
      have z4 := (cell_of_row wr w.heap.size 4 _ 26 (0, 0) hR).trans (show _ = some (.int .i64 0) from rfl)
      have f4 := frozen_of_row wr w.heap.size 4 _ 26 hR
      have z5 := (cell_of_row wr w.heap.size 5 _ 26 (0, 0) hR).trans (show _ = some (.string ⟨#[]⟩) from rfl)
      have f5 := frozen_of_row wr w.heap.size 5 _ 26 hR
      have HGx := Lib.hid hG
      have HR := Lib.hid hR
      clear hG hR HX HcA hcap3
      go_wp2_with (go_at_call 68; (with_reducible refine (which_any _ _).mono ?_); rintro e w' ⟨rfl, h2, d2, rfl⟩)
      refine wp_region_held_drew (S := fun w' => w'.cell? ⟨b3, off3 + 1, none⟩ = some (.int .i64 2) ∧ w'.cell? ⟨b3, off3 + 2, none⟩ = some (.int .i64 v2) ∧ w'.cell? ⟨b3, off3 + 3, none⟩ = some (.int .i64 v3) ∧ w'.cell? ⟨b3, off3 + 4, none⟩ = some (.int .i64 v4)) (by kernel_rfl) ?_ (fun hHeld => ?_)
      · (simp [go_sem, hb2, c1, c2, c3, c4])
      refine wpAnyH_take (i := 0) (v := ?v250x22_0) rfl (by kernel_rfl) (by kernel_rfl) (by kernel_rfl) (fun _ _ _ h => h) (Or.inl ⟨by kernel_rfl, ?y250x22_0⟩) (by assumption) ?r250x22_0
      case y250x22_0 => ((intro w hSw; (try dsimp only at hSw); go_simp); (try with_reducible rfl))
      try simp only [Act.put, List.getElem_toArray, List.getElem_cons_zero, List.setIfInBounds_toArray, List.set_cons_zero, List.set_cons_succ]
      refine wpAnyH_take (i := 1) (v := ?v251x22_1) rfl (by kernel_rfl) (by kernel_rfl) (by kernel_rfl) (fun _ _ _ h => h) (Or.inl ⟨by kernel_rfl, ?y251x22_1⟩) (by assumption) ?r251x22_1
      case y251x22_1 => ((intro w hSw; (try dsimp only at hSw); go_simp); (try with_reducible rfl))
      try simp only [Act.put, List.getElem_toArray, List.getElem_cons_succ, List.getElem_cons_zero, List.setIfInBounds_toArray, List.set_cons_zero, List.set_cons_succ]
      refine wpAnyH_take (i := 2) (v := ?v252x22_2) rfl (by kernel_rfl) (by kernel_rfl) (by kernel_rfl) (fun _ _ _ h => h) (Or.inl ⟨by kernel_rfl, ?y252x22_2⟩) (by assumption) ?r252x22_2
      case y252x22_2 => ((intro w hSw; (try dsimp only at hSw); go_simp); (try with_reducible rfl))
      try simp only [Act.put, List.getElem_toArray, List.getElem_cons_succ, List.getElem_cons_zero, List.setIfInBounds_toArray, List.set_cons_zero, List.set_cons_succ]
      refine wpAnyH_take (i := 3) (v := ?v253x22_3) rfl (by kernel_rfl) (by kernel_rfl) (by kernel_rfl) (fun _ _ _ h => h) (Or.inl ⟨by kernel_rfl, ?y253x22_3⟩) (by assumption) ?r253x22_3
      case y253x22_3 => ((intro w hSw; (try dsimp only at hSw); go_simp); (try with_reducible rfl))
      try simp only [Act.put, List.getElem_toArray, List.getElem_cons_succ, List.getElem_cons_zero, List.setIfInBounds_toArray, List.set_cons_zero, List.set_cons_succ]
      refine wpAnyH_take (i := 4) (v := ?v254x22_4) rfl (by kernel_rfl) (by kernel_rfl) (by kernel_rfl) (fun _ _ _ h => h) (Or.inl ⟨by kernel_rfl, ?y254x22_4⟩) (by assumption) ?r254x22_4
      case y254x22_4 => ((intro w hSw; (try dsimp only at hSw); go_simp); (try with_reducible rfl))
      try simp only [Act.put, List.getElem_toArray, List.getElem_cons_succ, List.getElem_cons_zero, List.setIfInBounds_toArray, List.set_cons_zero, List.set_cons_succ]
      refine wpAnyH_take (i := 5) (v := ?v255x22_5) rfl (by kernel_rfl) (by kernel_rfl) (by kernel_rfl) (fun _ _ _ h => h) (Or.inl ⟨by kernel_rfl, ?y255x22_5⟩) (by assumption) ?r255x22_5
      case y255x22_5 => ((intro w hSw; (try dsimp only at hSw); go_simp); (try with_reducible rfl))
      try simp only [Act.put, List.getElem_toArray, List.getElem_cons_succ, List.getElem_cons_zero, List.setIfInBounds_toArray, List.set_cons_zero, List.set_cons_succ]
      refine wpAnyH_take (i := 6) (v := ?v256x22_6) rfl (by kernel_rfl) (by kernel_rfl) (by kernel_rfl) (fun _ _ _ h => h) (Or.inl ⟨by kernel_rfl, ?y256x22_6⟩) (by assumption) ?r256x22_6
      case y256x22_6 => ((intro w hSw; (try dsimp only at hSw); go_simp); (try with_reducible rfl))
      try simp only [Act.put, List.getElem_toArray, List.getElem_cons_succ, List.getElem_cons_zero, List.setIfInBounds_toArray, List.set_cons_zero, List.set_cons_succ]
      refine wpAnyH_take (i := 7) (v := ?v257x22_7) rfl (by kernel_rfl) (by kernel_rfl) (by kernel_rfl) (fun _ _ _ h => h) (Or.inl ⟨by kernel_rfl, ?y257x22_7⟩) (by assumption) ?r257x22_7
      case y257x22_7 => ((intro w hSw; (try dsimp only at hSw); go_simp); (try with_reducible rfl))
      try simp only [Act.put, List.getElem_toArray, List.getElem_cons_succ, List.getElem_cons_zero, List.setIfInBounds_toArray, List.set_cons_zero, List.set_cons_succ]
      refine wpAnyH_take (i := 8) (v := ?v258x22_8) rfl (by kernel_rfl) (by kernel_rfl) (by kernel_rfl) (fun _ _ _ h => h) (Or.inl ⟨by kernel_rfl, ?y258x22_8⟩) (by assumption) ?r258x22_8
      case y258x22_8 => ((intro w hSw; (try dsimp only at hSw); go_simp); (try with_reducible rfl))
      try simp only [Act.put, List.getElem_toArray, List.getElem_cons_succ, List.getElem_cons_zero, List.setIfInBounds_toArray, List.set_cons_zero, List.set_cons_succ]
      refine wpAnyH_take (i := 9) (v := ?v259x22_9) rfl (by kernel_rfl) (by kernel_rfl) (by kernel_rfl) (fun _ _ _ h => h) (Or.inl ⟨by kernel_rfl, ?y259x22_9⟩) (by assumption) ?r259x22_9
      case y259x22_9 => ((intro w hSw; (try dsimp only at hSw); go_simp); (try with_reducible rfl))
      try simp only [Act.put, List.getElem_toArray, List.getElem_cons_succ, List.getElem_cons_zero, List.setIfInBounds_toArray, List.set_cons_zero, List.set_cons_succ]
      refine wpAnyH_take (i := 10) (v := ?v260x22_10) rfl (by kernel_rfl) (by kernel_rfl) (by kernel_rfl) (fun _ _ _ h => h) (Or.inl ⟨by kernel_rfl, ?y260x22_10⟩) (by assumption) ?r260x22_10
      case y260x22_10 => ((intro w hSw; (try dsimp only at hSw); go_simp); (try with_reducible rfl))
      try simp only [Act.put, List.getElem_toArray, List.getElem_cons_succ, List.getElem_cons_zero, List.setIfInBounds_toArray, List.set_cons_zero, List.set_cons_succ]
      refine wpAnyH_take (i := 11) (v := ?v261x22_11) rfl (by kernel_rfl) (by kernel_rfl) (by kernel_rfl) (fun _ _ _ h => h) (Or.inl ⟨by kernel_rfl, ?y261x22_11⟩) (by assumption) ?r261x22_11
      case y261x22_11 => ((intro w hSw; (try dsimp only at hSw); go_simp); (try with_reducible rfl))
      try simp only [Act.put, List.getElem_toArray, List.getElem_cons_succ, List.getElem_cons_zero, List.setIfInBounds_toArray, List.set_cons_zero, List.set_cons_succ]
      refine wpAnyH_take (i := 12) (v := ?v262x22_12) rfl (by kernel_rfl) (by kernel_rfl) (by kernel_rfl) (fun _ _ _ h => h) (Or.inl ⟨by kernel_rfl, ?y262x22_12⟩) (by assumption) ?r262x22_12
      case y262x22_12 => ((intro w hSw; (try dsimp only at hSw); go_simp); (try with_reducible rfl))
      try simp only [Act.put, List.getElem_toArray, List.getElem_cons_succ, List.getElem_cons_zero, List.setIfInBounds_toArray, List.set_cons_zero, List.set_cons_succ]
      refine wpAnyH_take (i := 13) (v := ?v263x22_13) rfl (by kernel_rfl) (by kernel_rfl) (by kernel_rfl) (fun _ _ _ h => h) (Or.inl ⟨by kernel_rfl, ?y263x22_13⟩) (by assumption) ?r263x22_13
      case y263x22_13 => ((intro w hSw; (try dsimp only at hSw); go_simp); (try with_reducible rfl))
      try simp only [Act.put, List.getElem_toArray, List.getElem_cons_succ, List.getElem_cons_zero, List.setIfInBounds_toArray, List.set_cons_zero, List.set_cons_succ]
      refine wpAnyH_take (i := 14) (v := ?v264x22_14) rfl (by kernel_rfl) (by kernel_rfl) (by kernel_rfl) (fun _ _ _ h => h) (Or.inl ⟨by kernel_rfl, ?y264x22_14⟩) (by assumption) ?r264x22_14
      case y264x22_14 => ((intro w hSw; (try dsimp only at hSw); go_simp); (try with_reducible rfl))
      try simp only [Act.put, List.getElem_toArray, List.getElem_cons_succ, List.getElem_cons_zero, List.setIfInBounds_toArray, List.set_cons_zero, List.set_cons_succ]
      refine wpAnyH_take (i := 15) (v := ?v265x22_15) rfl (by kernel_rfl) (by kernel_rfl) (by kernel_rfl) (fun _ _ _ h => h) (Or.inl ⟨by kernel_rfl, ?y265x22_15⟩) (by assumption) ?r265x22_15
      case y265x22_15 => ((intro w hSw; (try dsimp only at hSw); go_simp); (try with_reducible rfl))
      try simp only [Act.put, List.getElem_toArray, List.getElem_cons_succ, List.getElem_cons_zero, List.setIfInBounds_toArray, List.set_cons_zero, List.set_cons_succ]
      refine wpAnyH_take (i := 16) (v := ?v266x22_16) rfl (by kernel_rfl) (by kernel_rfl) (by kernel_rfl) (fun _ _ _ h => h) (Or.inl ⟨by kernel_rfl, ?y266x22_16⟩) (by assumption) ?r266x22_16
      case y266x22_16 => ((intro w hSw; (try dsimp only at hSw); go_simp); (try with_reducible rfl))
      try simp only [Act.put, List.getElem_toArray, List.getElem_cons_succ, List.getElem_cons_zero, List.setIfInBounds_toArray, List.set_cons_zero, List.set_cons_succ]
      refine wpAnyH_take (i := 17) (v := ?v267x22_17) rfl (by kernel_rfl) (by kernel_rfl) (by kernel_rfl) (fun _ _ _ h => h) (Or.inl ⟨by kernel_rfl, ?y267x22_17⟩) (by assumption) ?r267x22_17
      case y267x22_17 => ((intro w hSw; (try dsimp only at hSw); go_simp); (try with_reducible rfl))
      try simp only [Act.put, List.getElem_toArray, List.getElem_cons_succ, List.getElem_cons_zero, List.setIfInBounds_toArray, List.set_cons_zero, List.set_cons_succ]
      refine wpAnyH_take (i := 18) (v := ?v268x22_18) rfl (by kernel_rfl) (by kernel_rfl) (by kernel_rfl) (fun _ _ _ h => h) (Or.inl ⟨by kernel_rfl, ?y268x22_18⟩) (by assumption) ?r268x22_18
      case y268x22_18 => ((intro w hSw; (try dsimp only at hSw); go_simp); (try with_reducible rfl))
      try simp only [Act.put, List.getElem_toArray, List.getElem_cons_succ, List.getElem_cons_zero, List.setIfInBounds_toArray, List.set_cons_zero, List.set_cons_succ]
      refine wpAnyH_ready (rs := [19]) (by kernel_rfl) (by simp) ?_
      refine AllReadyH.cons rfl (fun K hK => ?_) AllReadyH.nil
      simp only [List.getElem_toArray, List.getElem_cons_succ, List.getElem_cons_zero]
      go_simp
      skip
      refine hK.out _ _ ?_ ?_
      · ((try dsimp only); simp [go_sem, hb2, c1, c2, c3, c4])
      clear hK K hHeld
      intro hHeld
      try simp only [Act.put, List.getElem_toArray, List.getElem_cons_succ, List.getElem_cons_zero, List.setIfInBounds_toArray, List.set_cons_zero, List.set_cons_succ]
      refine wpAnyH_ready (rs := [20]) (by kernel_rfl) (by simp) ?_
      refine AllReadyH.cons rfl (fun K hK => ?_) AllReadyH.nil
      simp only [List.getElem_toArray, List.getElem_cons_succ, List.getElem_cons_zero]
      go_simp
      (go_at_call 69; (with_reducible refine (HWI.out _ _ ?hi69_22).mono ?hm69_22); (case hi69_22 => exact told_at3 (by simp) v2 v3 v4); rintro e w' ⟨rfl, rfl⟩)
      refine hK.out _ _ ?_ ?_
      · ((try dsimp only); simp [go_sem, hb2, c1, c2, c3, c4])
      clear hK K hHeld
      intro hHeld
      try simp only [Act.put, List.getElem_toArray, List.getElem_cons_succ, List.getElem_cons_zero, List.setIfInBounds_toArray, List.set_cons_zero, List.set_cons_succ]
      refine wpAnyH_take (i := 21) (v := ?v271x22_21) rfl (by kernel_rfl) (by kernel_rfl) (by kernel_rfl) (fun _ _ _ h => h) (Or.inl ⟨by kernel_rfl, ?y271x22_21⟩) (by assumption) ?r271x22_21
      case y271x22_21 => ((intro w hSw; (try dsimp only at hSw); go_simp); (try with_reducible rfl))
      try simp only [Act.put, List.getElem_toArray, List.getElem_cons_succ, List.getElem_cons_zero, List.setIfInBounds_toArray, List.set_cons_zero, List.set_cons_succ]
      refine wpAnyH_done (by kernel_rfl) ?_ _
      clear hHeld
      go_wp2_with fail
      refine wp_region_held_drew (S := fun w' => w'.cell? ⟨b3, off3 + 1, none⟩ = some (.int .i64 2) ∧ w'.cell? ⟨b3, off3 + 2, none⟩ = some (.int .i64 v2) ∧ w'.cell? ⟨b3, off3 + 3, none⟩ = some (.int .i64 v3) ∧ w'.cell? ⟨b3, off3 + 4, none⟩ = some (.int .i64 v4)) (by kernel_rfl) ?_ (fun hHeld => ?_)
      · (simp [go_sem, hb2, c1, c2, c3, c4])
      refine wpAnyH_take (i := 0) (v := ?v272x22_0) rfl (by kernel_rfl) (by kernel_rfl) (by kernel_rfl) (fun _ _ _ h => h) (Or.inl ⟨by kernel_rfl, ?y272x22_0⟩) (by assumption) ?r272x22_0
      case y272x22_0 => ((intro w hSw; (try dsimp only at hSw); go_simp); (try with_reducible rfl))
      try simp only [Act.put, List.getElem_toArray, List.getElem_cons_zero, List.setIfInBounds_toArray, List.set_cons_zero, List.set_cons_succ]
      refine wpAnyH_take (i := 1) (v := ?v273x22_1) rfl (by kernel_rfl) (by kernel_rfl) (by kernel_rfl) (fun _ _ _ h => h) (Or.inl ⟨by kernel_rfl, ?y273x22_1⟩) (by assumption) ?r273x22_1
      case y273x22_1 => ((intro w hSw; (try dsimp only at hSw); go_simp); (try with_reducible rfl))
      try simp only [Act.put, List.getElem_toArray, List.getElem_cons_succ, List.getElem_cons_zero, List.setIfInBounds_toArray, List.set_cons_zero, List.set_cons_succ]
      refine wpAnyH_take (i := 2) (v := ?v274x22_2) rfl (by kernel_rfl) (by kernel_rfl) (by kernel_rfl) (fun _ _ _ h => h) (Or.inl ⟨by kernel_rfl, ?y274x22_2⟩) (by assumption) ?r274x22_2
      case y274x22_2 => ((intro w hSw; (try dsimp only at hSw); go_simp); (try with_reducible rfl))
      try simp only [Act.put, List.getElem_toArray, List.getElem_cons_succ, List.getElem_cons_zero, List.setIfInBounds_toArray, List.set_cons_zero, List.set_cons_succ]
      refine wpAnyH_take (i := 3) (v := ?v275x22_3) rfl (by kernel_rfl) (by kernel_rfl) (by kernel_rfl) (fun _ _ _ h => h) (Or.inl ⟨by kernel_rfl, ?y275x22_3⟩) (by assumption) ?r275x22_3
      case y275x22_3 => ((intro w hSw; (try dsimp only at hSw); go_simp); (try with_reducible rfl))
      try simp only [Act.put, List.getElem_toArray, List.getElem_cons_succ, List.getElem_cons_zero, List.setIfInBounds_toArray, List.set_cons_zero, List.set_cons_succ]
      refine wpAnyH_take (i := 4) (v := ?v276x22_4) rfl (by kernel_rfl) (by kernel_rfl) (by kernel_rfl) (fun _ _ _ h => h) (Or.inl ⟨by kernel_rfl, ?y276x22_4⟩) (by assumption) ?r276x22_4
      case y276x22_4 => ((intro w hSw; (try dsimp only at hSw); go_simp); (try with_reducible rfl))
      try simp only [Act.put, List.getElem_toArray, List.getElem_cons_succ, List.getElem_cons_zero, List.setIfInBounds_toArray, List.set_cons_zero, List.set_cons_succ]
      refine wpAnyH_take (i := 5) (v := ?v277x22_5) rfl (by kernel_rfl) (by kernel_rfl) (by kernel_rfl) (fun _ _ _ h => h) (Or.inl ⟨by kernel_rfl, ?y277x22_5⟩) (by assumption) ?r277x22_5
      case y277x22_5 => ((intro w hSw; (try dsimp only at hSw); go_simp); (try with_reducible rfl))
      try simp only [Act.put, List.getElem_toArray, List.getElem_cons_succ, List.getElem_cons_zero, List.setIfInBounds_toArray, List.set_cons_zero, List.set_cons_succ]
      refine wpAnyH_take (i := 6) (v := ?v278x22_6) rfl (by kernel_rfl) (by kernel_rfl) (by kernel_rfl) (fun _ _ _ h => h) (Or.inl ⟨by kernel_rfl, ?y278x22_6⟩) (by assumption) ?r278x22_6
      case y278x22_6 => ((intro w hSw; (try dsimp only at hSw); go_simp); (try with_reducible rfl))
      try simp only [Act.put, List.getElem_toArray, List.getElem_cons_succ, List.getElem_cons_zero, List.setIfInBounds_toArray, List.set_cons_zero, List.set_cons_succ]
      refine wpAnyH_take (i := 7) (v := ?v279x22_7) rfl (by kernel_rfl) (by kernel_rfl) (by kernel_rfl) (fun _ _ _ h => h) (Or.inl ⟨by kernel_rfl, ?y279x22_7⟩) (by assumption) ?r279x22_7
      case y279x22_7 => ((intro w hSw; (try dsimp only at hSw); go_simp); (try with_reducible rfl))
      try simp only [Act.put, List.getElem_toArray, List.getElem_cons_succ, List.getElem_cons_zero, List.setIfInBounds_toArray, List.set_cons_zero, List.set_cons_succ]
      refine wpAnyH_take (i := 8) (v := ?v280x22_8) rfl (by kernel_rfl) (by kernel_rfl) (by kernel_rfl) (fun _ _ _ h => h) (Or.inl ⟨by kernel_rfl, ?y280x22_8⟩) (by assumption) ?r280x22_8
      case y280x22_8 => ((intro w hSw; (try dsimp only at hSw); go_simp); (try with_reducible rfl))
      try simp only [Act.put, List.getElem_toArray, List.getElem_cons_succ, List.getElem_cons_zero, List.setIfInBounds_toArray, List.set_cons_zero, List.set_cons_succ]
      refine wpAnyH_take (i := 9) (v := ?v281x22_9) rfl (by kernel_rfl) (by kernel_rfl) (by kernel_rfl) (fun _ _ _ h => h) (Or.inl ⟨by kernel_rfl, ?y281x22_9⟩) (by assumption) ?r281x22_9
      case y281x22_9 => ((intro w hSw; (try dsimp only at hSw); go_simp); (try with_reducible rfl))
      try simp only [Act.put, List.getElem_toArray, List.getElem_cons_succ, List.getElem_cons_zero, List.setIfInBounds_toArray, List.set_cons_zero, List.set_cons_succ]
      refine wpAnyH_ready (rs := [10]) (by kernel_rfl) (by simp) ?_
      refine AllReadyH.cons rfl (fun K hK => ?_) AllReadyH.nil
      simp only [List.getElem_toArray, List.getElem_cons_succ, List.getElem_cons_zero]
      go_simp
      (go_at_call 71; (with_reducible refine (HRG.out _).mono ?_); rintro e w' ⟨rfl, h6, d6, rfl⟩)
      refine hK.out _ _ ?_ ?_
      · ((try dsimp only); simp [go_sem, hb2, c1, c2, c3, c4])
      clear hK K hHeld
      intro hHeld
      try simp only [Act.put, List.getElem_toArray, List.getElem_cons_succ, List.getElem_cons_zero, List.setIfInBounds_toArray, List.set_cons_zero, List.set_cons_succ]
      refine wpAnyH_ready (rs := [11]) (by kernel_rfl) (by simp) ?_
      refine AllReadyH.cons rfl (fun K hK => ?_) AllReadyH.nil
      simp only [List.getElem_toArray, List.getElem_cons_succ, List.getElem_cons_zero]
      go_simp
      skip
      refine hK.out _ _ ?_ ?_
      · ((try dsimp only); simp [go_sem, hb2, c1, c2, c3, c4])
      clear hK K hHeld
      intro hHeld
      try simp only [Act.put, List.getElem_toArray, List.getElem_cons_succ, List.getElem_cons_zero, List.setIfInBounds_toArray, List.set_cons_zero, List.set_cons_succ]
      refine wpAnyH_take (i := 12) (v := ?v284x22_12) rfl (by kernel_rfl) (by kernel_rfl) (by kernel_rfl) (fun _ _ _ h => h) (Or.inl ⟨by kernel_rfl, ?y284x22_12⟩) (by assumption) ?r284x22_12
      case y284x22_12 => ((intro w hSw; (try dsimp only at hSw); go_simp); (try with_reducible rfl))
      try simp only [Act.put, List.getElem_toArray, List.getElem_cons_succ, List.getElem_cons_zero, List.setIfInBounds_toArray, List.set_cons_zero, List.set_cons_succ]
      refine wpAnyH_take (i := 13) (v := ?v285x22_13) rfl (by kernel_rfl) (by kernel_rfl) (by kernel_rfl) (fun _ _ _ h => h) (Or.inl ⟨by kernel_rfl, ?y285x22_13⟩) (by assumption) ?r285x22_13
      case y285x22_13 => ((intro w hSw; (try dsimp only at hSw); go_simp); (try with_reducible rfl))
      try simp only [Act.put, List.getElem_toArray, List.getElem_cons_succ, List.getElem_cons_zero, List.setIfInBounds_toArray, List.set_cons_zero, List.set_cons_succ]
      refine wpAnyH_done (by kernel_rfl) ?_ _
      clear hHeld
      go_wp2_with fail
      refine bodyPost_ret (res37 (N := w.heap.size) (row := #[.int .i64 (39), .int .i64 (whichV v0), .int .i64 (0), .int .i64 (2), .int .i64 (v2 * 65536 + v3 * 256 + v4), .string ⟨#[]⟩]) ?hw37_22 rfl rfl rfl rfl) rfl ⟨rfl, (by repeat' (first | (with_reducible exact HGx.out) | (with_reducible exact Grows.refl _) | (with_reducible refine Grows.setCell ?_ (Nat.le_refl _) _) | (with_reducible refine Grows.alloc ?_ _) | (with_reducible refine Grows.drew ?_) | (with_reducible refine Grows.ext ?_ _ _)))⟩
      case hw37_22 => exact Grows.rowK (set6 HR.out) (by repeat' (first | (with_reducible exact Grows.refl _) | (with_reducible refine Grows.alloc ?_ _) | (with_reducible refine Grows.drew ?_) | (with_reducible refine Grows.ext ?_ _ _)))
end Go.Proofs.YtobbphkfdhjmdaaDoor

namespace Go.Proofs.YtobbphkfdhjmdaaDoor
open Go.RowKit

theorem front37_post {r : List (List Int)} {w : World} {f : Nat} {args : Array Value} (q : (Pen × Bool) × Nat) (hq : frontR r = q)
    (h : Calls Tryd.prog f args w (Ret (.tuple #[.agg (ansC q.1), .bool q.1.2, .int .i64 (q.2 : Nat)]) w)) : Calls Tryd.prog f args w (Ret (.tuple #[.agg (ansC (frontR r).1), .bool (frontR r).1.2, .int .i64 ((frontR r).2 : Nat)]) w) := by
  rw [hq]
  exact h
theorem front37_any (v : Value) (r : List (List Int)) (hl : r.length ≤ 1000) (hr0 : r ≠ []) (hok : ∀ p ∈ r, okPart p = true) (w : World) (h : RowAt w v r) : Calls Tryd.prog 37 #[v] w (Ret (.tuple #[.agg (ansC (frontR r).1), .bool (frontR r).1.2, .int .i64 ((frontR r).2 : Nat)]) w) := by
  obtain ⟨L, hL⟩ : ∃ L, (valuesL r).length = L := ⟨_, rfl⟩
  obtain ⟨v0, hv0⟩ : ∃ z, (valuesL r)[0]?.getD 0 = z := ⟨_, rfl⟩
  obtain ⟨v1, hv1⟩ : ∃ z, (valuesL r)[1]?.getD 0 = z := ⟨_, rfl⟩
  obtain ⟨v2, hv2⟩ : ∃ z, (valuesL r)[2]?.getD 0 = z := ⟨_, rfl⟩
  obtain ⟨v3, hv3⟩ : ∃ z, (valuesL r)[3]?.getD 0 = z := ⟨_, rfl⟩
  obtain ⟨v4, hv4⟩ : ∃ z, (valuesL r)[4]?.getD 0 = z := ⟨_, rfl⟩
  obtain ⟨p, hp⟩ : ∃ p, r[0]?.getD [] = p := ⟨_, rfl⟩
  have hpo : okPart p = true := by
    match r, hr0 with
    | x :: t, _ =>
      have e : x = p := by simpa using hp
      subst e
      exact hok x (by simp)
  have hF : frontR r = if 2 ≤ L ∧ 0 ≤ whichV v0 then
      (if v1 = 5 ∧ 3 ≤ L ∧ withinL [v2] = true then ((colored (whichV v0) 1 v2, true), 3)
      else if v1 = 2 ∧ 5 ≤ L ∧ withinL [v2, v3, v4] = true then ((rgbP (whichV v0) v2 v3 v4, true), 5)
      else if v1 = 5 then ((noPen, false), min 3 r.length)
      else if v1 = 2 then ((noPen, false), min 5 r.length)
      else (aloneR p, 1)) else (aloneR p, 1) := by
    unfold frontR
    simp only [List.getD_eq_getElem?_getD, hL, hv0, hv1, hv2, hv3, hv4, hp]
  by_cases h2 : 2 ≤ L
  · by_cases hw : 0 ≤ whichV v0
    · rw [if_pos ⟨h2, hw⟩] at hF
      by_cases h5 : v1 = 5
      · by_cases h3 : 3 ≤ L
        · cases hwi : withinL [v2] with
          | true =>
            rw [if_pos ⟨h5, h3, hwi⟩] at hF
            exact front37_post _ hF (front37_b v r hl hr0 w h _ L hL v0 hv0 v1 hv1 v2 hv2 h2 hw h3 h5 hwi rfl)
          | false =>
            rw [if_neg (by rw [hwi]; simp), if_neg (by omega), if_pos h5] at hF
            exact front37_post _ hF (front37_d2 v r hl hr0 w h _ L hL v0 hv0 v1 hv1 v2 hv2 h2 hw h3 h5 hwi rfl)
        · rw [if_neg (fun e => h3 e.2.1), if_neg (by omega), if_pos h5] at hF
          exact front37_post _ hF (front37_d1 v r hl hr0 w h _ L hL v0 hv0 v1 hv1 h2 hw (by omega) h5 rfl)
      · by_cases h22 : v1 = 2
        · by_cases h3 : 5 ≤ L
          · cases hwi : withinL [v2, v3, v4] with
            | true =>
              rw [if_neg (fun e => h5 e.1), if_pos ⟨h22, h3, hwi⟩] at hF
              exact front37_post _ hF (front37_c v r hl hr0 w h _ L hL v0 hv0 v1 hv1 v2 hv2 v3 hv3 v4 hv4 h2 hw h3 h22 hwi rfl)
            | false =>
              rw [if_neg (fun e => h5 e.1), if_neg (by rw [hwi]; simp), if_neg h5, if_pos h22] at hF
              exact front37_post _ hF (front37_e2 v r hl hr0 w h _ L hL v0 hv0 v1 hv1 v2 hv2 v3 hv3 v4 hv4 h2 hw h3 h22 hwi rfl)
          · rw [if_neg (fun e => h5 e.1), if_neg (fun e => h3 e.2.1), if_neg h5, if_pos h22] at hF
            exact front37_post _ hF (front37_e1 v r hl hr0 w h _ L hL v0 hv0 v1 hv1 h2 hw (by omega) h22 rfl)
        · rw [if_neg (fun e => h5 e.1), if_neg (fun e => h22 e.1), if_neg h5, if_neg h22] at hF
          exact front37_post _ hF (front37_f v r hl hr0 w h _ p hp hpo rfl L hL v0 hv0 v1 hv1 h2 hw h5 h22)
    · rw [if_neg (fun e => hw e.2)] at hF
      exact front37_post _ hF (front37_a1 v r hl hr0 w h _ p hp hpo rfl L hL v0 hv0 h2 (by omega))
  · rw [if_neg (fun e => h2 e.1)] at hF
    exact front37_post _ hF (front37_a0 v r hl hr0 w h _ p hp hpo rfl L hL (by omega))
end Go.Proofs.YtobbphkfdhjmdaaDoor

