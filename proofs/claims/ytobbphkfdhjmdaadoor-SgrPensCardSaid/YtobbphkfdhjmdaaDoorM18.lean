/-
  The reference: front, by its first parameter alone. The reference: front, of a colour of the table.
-/
import Derived.Test.YtobbphkfdhjmdaaDoorRows
import Derived.Test.YtobbphkfdhjmdaaDoorM1
import Derived.Test.YtobbphkfdhjmdaaDoorM2
import Derived.Test.YtobbphkfdhjmdaaDoorM17
import Derived.WalkKit
import Derived.WalkSpells
import Derived.WalkLawsBesides
import Derived.Handy
import Derived.Laws.Rows
import Derived.Great.BuildSlice
import Derived.Deep.Heap
import Derived.IntWalk
import Derived.Lib.Hide
import Derived.Outline
import Derived.Deep.Light
import Derived.Deep.LoopGhost
import Derived.BigGuardPart
import Derived.BigQuiet
import Derived.Deep.QuietTactic
import Derived.Deep.RegionHeld3
import Derived.Deep.DeepCutAuto
import Derived.OwnWalk
import Derived.Maps.AppendAt
namespace Go.Proofs.YtobbphkfdhjmdaaDoor
open Go.RowKit

/-- What stands behind the loop that gathers the values. -/
def Ex37 (w wr : World) (x : Value) (vs : List Int) (L : Nat) : Prop := Grows w wr ∧ wr.heap[w.heap.size]? = some (.cells #[.int .i64 0, .int .i64 0, .int .i64 0, .int .i64 0, .int .i64 0, .string ⟨#[]⟩] 26 (0, 0)) ∧ ∃ a cap, x = .slice a L cap ∧ L ≤ cap ∧ (0 < L → ∃ b off, a = some ⟨b, off, none⟩ ∧ w.heap.size + 1 ≤ b ∧ b < wr.heap.size ∧ ∀ i, i < L → wr.cell? ⟨b, off + i, none⟩ = some (.int .i64 (vs[i]?.getD 0)))
theorem exit37 {w W0 wr : World} {x : Value} {r : List (List Int)} {k L : Nat} (hG : Grows w W0) (hs : W0.heap.size = w.heap.size + 1) (hZ : W0.heap[w.heap.size]? = some (.cells #[.int .i64 0, .int .i64 0, .int .i64 0, .int .i64 0, .int .i64 0, .string ⟨#[]⟩] 26 (0, 0))) (hL : (valuesL r).length = L) (hv : valuesL r = valuesL (r.take k))
    (hown : wr.ownsRow (w.heap.size + 1) 3 1 x k ((valuesL (r.take k)).map (.int .i64 ·))) (hb : Below (w.heap.size + 1) W0 wr) : Ex37 w wr x (valuesL r) L := by
  refine ⟨hG.trans (Grows.of_below (by rw [hs]; exact hb)), (hb.block _ (by omega)).trans hZ, ?_⟩
  have h := from_of_own hown
  rw [← hv] at h
  obtain ⟨a, cap, e, hc, hin⟩ := h
  subst hL
  exact ⟨a, cap, e, hc, fun h0 => hin (by intro e; rw [e] at h0; simp at h0)⟩
theorem res37 {tmps : Array Value} {W : World} {N : Nat} {row : Array Value} {x y : Value} (hrow : W.heap[N]? = some (.cells row 26 (0, 0))) (hs : some 6 = some row.size) (h2 : tmps.getD 2 undef = .pointer (some ⟨N, 0, none⟩)) (h3 : tmps.getD 3 undef = x) (h4 : tmps.getD 4 undef = y) :
    (results Tryd.f37 tmps).run Tryd.prog W = .ok (.tuple #[.agg row, x, y]) W := by
  have hl := run_loadVar_row (P := Tryd.prog) W N 26 26 row (0, 0) _ hrow Tryd.underlying26 rfl (info26.trans hs)
  simp only [Array.getD_eq_getD_getElem?] at h2 h3 h4
  simp [results, Tryd.results37, asAddr, hl, h2, h3, h4]
theorem ansC_form (q : Pen × Bool) : ∃ a b c d e, ansC q = #[.int .i64 a, .int .i64 b, .int .i64 c, .int .i64 d, .int .i64 e, .string ⟨#[]⟩] := by
  unfold ansC
  split
  · exact ⟨_, _, _, _, _, rfl⟩
  · exact ⟨_, _, _, _, _, rfl⟩
set_option maxRecDepth 100000 in
set_option maxHeartbeats 8000000 in
theorem front37_a0 (v : Value) (r : List (List Int)) (hl : r.length ≤ 1000) (hr0 : r ≠ []) (w : World) (h : RowAt w v r) (q : Pen × Bool) (p : List Int) (hp : r[0]?.getD [] = p) (hok : okPart p = true) (hq : aloneR p = q) (L : Nat) (hL : (valuesL r).length = L) (h2 : L < 2) : Calls Tryd.prog 37 #[v] w (Ret (.tuple #[.agg (ansC q), .bool q.2, .int .i64 1]) w) := by
  obtain ⟨a, cap, rfl, -, hin⟩ := h
  obtain ⟨i0, hi, hz0, hz1, hz2⟩ := info_parts infoInt
  obtain ⟨bA, offA, rfl, hbA, hcA⟩ := hin hr0
  have hrl0 : 0 < r.length := List.length_pos_iff.2 hr0
  have HAL := Lib.hid fun s W (h : IntsAt W s p) => alone72 s p hok W h
  rw [hq] at HAL
  clear hq hok
  obtain ⟨q0, q1, q2, q3, q4, hA⟩ := ansC_form q
  rw [hA] at HAL ⊢
  generalize q.2 = yes at *
  clear hA q
  have e38 : decide ((L : Int) ≥ 2) = false := by simp; omega
  have HcA := Lib.hid hcA
  clear hcA hin
  go_enter Tryd.func37, Tryd.ntmps37
  go_upto_region 1 with fail
  refine abs_worldM (fun W => W.heap.size = w.heap.size + 1 ∧ Grows w W ∧ W.heap[w.heap.size]? = some (.cells #[.int .i64 0, .int .i64 0, .int .i64 0, .int .i64 0, .int .i64 0, .string ⟨#[]⟩] 26 (0, 0))) ⟨by simp, (by repeat' (first | (with_reducible exact Grows.refl _) | (with_reducible refine Grows.alloc ?_ _) | (with_reducible refine Grows.drew ?_) | (with_reducible refine Grows.ext ?_ _ _))), heap_alloc_new w _⟩ ?_
  rintro W0 ⟨hs0, hG0, hZ0⟩
  have HZ0 := Lib.hid hZ0
  have HG0 := Lib.hid hG0
  clear hZ0 hG0
  go_wp2_with fail
  go_loopw [5, 6] (fun x i wr => ∃ (k : Nat), k ≤ r.length ∧ i = .int .i64 k ∧ (∀ p ∈ r.take k, p.length = 1) ∧ wr.ownsRow (w.heap.size + 1) 3 1 x k ((valuesL (r.take k)).map (.int .i64 ·)) ∧ Below (w.heap.size + 1) W0 wr) (fun _ i _ => r.length - (intOf i).toNat)
  case atStart => exact ⟨0, Nat.zero_le _, rfl, by simp, World.ownsRow_nil _ _ _ _, Below.refl _ _⟩
  case round =>
    obtain ⟨k, hk, rfl, hone, hown, hb⟩ := hrel
    have hsz : w.heap.size + 1 ≤ wr.heap.size := by have := hb.size; omega
    have Hone := Lib.hid hone
    clear hone
    by_cases hlt : k < r.length
    · have e2 : decide (k < r.length) = true := by simpa using hlt
      obtain ⟨s, hs, a2, cap2, rfl, -, hin2⟩ := HcA.out k hlt
      have c0 := (hb.cell (p := ⟨bA, offA + k, none⟩) (by show bA < w.heap.size + 1; omega)).trans ((HG0.out.cellOf hbA).trans hs)
      have Hin2 := Lib.hid hin2
      have hbw : bA < wr.heap.size := by omega
      clear hs hin2
      by_cases h1 : (r[k]?.getD []).length = 1
      · have Hvs := Lib.hid (values_succ hlt Hone.out h1)
        have Hos := Lib.hid (ones_succ hlt Hone.out h1)
        generalize r[k]?.getD [] = p at *
        obtain ⟨x, rfl⟩ := List.length_eq_one_iff.1 h1
        obtain ⟨b2, off2, rfl, hb2, hc2⟩ := Hin2.out (by simp)
        have c1 := (hb.cell (p := ⟨b2, off2 + 0, none⟩) (by show b2 < w.heap.size + 1; omega)).trans ((HG0.out.cellOf hb2).trans (hc2 0 (by simp)))
        simp only [Nat.add_zero, List.length_singleton, List.getElem?_cons_zero, Option.getD_some] at c0 c1 Hvs
        have hbw2 : b2 < wr.heap.size := by omega
        clear Hin2 hc2 h1
        by_cases hx : 0 < x
        · have hmx : max 0 x = x := by omega
          go_wp2_with (at_builtin; refine wpList_append_own _ rfl (.tmp 25) (.tmp 34) 36 rfl (w.heap.size + 1) 3 i0 (.int .i64 0) 1 8 Tryd.underlying36 hi hz0 hz1 hz2 rfl (by decide) _ _ _ rfl (hown.alloc _) ⟨wr.heap.size, 0, none⟩ 1 1 [.int .i64 (x)] rfl rfl (cell_one_new _ _ _) (by simp [Value.oneCell']) (by unfold maxLen; omega) (by omega) (by simp; omega) ?_; intro v' w1 hown' hgrow _)
          have hb1 := (hb.alloc hsz (.cells #[.int .i64 (x)] 3)).grown hgrow (by simp; omega) (fun q e => (hown.lt q e).1)
          clear hgrow hown hb
          go_wp2
          go_roundw
          case rel => exact ⟨k + 1, by omega, by go_num, Hos.out, by rw [Hvs.out, List.map_append, List.map_singleton, hmx]; exact hown', hb1⟩
          case measure => simp [intOf]; omega
        · have hx' : x ≤ 0 := by omega
          have hmx : max 0 x = 0 := by omega
          go_wp2_with (at_builtin; refine wpList_append_own _ rfl (.tmp 25) (.tmp 34) 36 rfl (w.heap.size + 1) 3 i0 (.int .i64 0) 1 8 Tryd.underlying36 hi hz0 hz1 hz2 rfl (by decide) _ _ _ rfl (hown.alloc _) ⟨wr.heap.size, 0, none⟩ 1 1 [.int .i64 (0)] rfl rfl (cell_one_new _ _ _) (by simp [Value.oneCell']) (by unfold maxLen; omega) (by omega) (by simp; omega) ?_; intro v' w1 hown' hgrow _)
          have hb1 := (hb.alloc hsz (.cells #[.int .i64 (0)] 3)).grown hgrow (by simp; omega) (fun q e => (hown.lt q e).1)
          clear hgrow hown hb
          go_wp2
          go_roundw
          case rel => exact ⟨k + 1, by omega, by go_num, Hos.out, by rw [Hvs.out, List.map_append, List.map_singleton, hmx]; exact hown', hb1⟩
          case measure => simp [intOf]; omega
      · have e1 : (((r[k]?.getD []).length : Int) == 1) = false := by simp; omega
        have HX := Lib.hid (exit37 HG0.out hs0 HZ0.out hL (values_stop Hone.out (Or.inr h1)) hown hb)
        generalize (r[k]?.getD []).length = m at *
        clear h1 Hin2 Hone hown hb
        obtain ⟨hG, hR, a3, cap3, rfl, hcap3, hin3⟩ := HX.out
        have hsz2 : w.heap.size < wr.heap.size := (Array.getElem?_eq_some_iff.1 hR).1
        clear hin3
        have z0 := (cell_of_row wr w.heap.size 0 _ 26 (0, 0) hR).trans (show _ = some (.int .i64 0) from rfl)
        have f0 := frozen_of_row wr w.heap.size 0 _ 26 hR
        have z1 := (cell_of_row wr w.heap.size 1 _ 26 (0, 0) hR).trans (show _ = some (.int .i64 0) from rfl)
        have f1 := frozen_of_row wr w.heap.size 1 _ 26 hR
        have z2 := (cell_of_row wr w.heap.size 2 _ 26 (0, 0) hR).trans (show _ = some (.int .i64 0) from rfl)
        have f2 := frozen_of_row wr w.heap.size 2 _ 26 hR
        have z3 := (cell_of_row wr w.heap.size 3 _ 26 (0, 0) hR).trans (show _ = some (.int .i64 0) from rfl)
        have f3 := frozen_of_row wr w.heap.size 3 _ 26 hR
        have z4 := (cell_of_row wr w.heap.size 4 _ 26 (0, 0) hR).trans (show _ = some (.int .i64 0) from rfl)
        have f4 := frozen_of_row wr w.heap.size 4 _ 26 hR
        have z5 := (cell_of_row wr w.heap.size 5 _ 26 (0, 0) hR).trans (show _ = some (.string ⟨#[]⟩) from rfl)
        have f5 := frozen_of_row wr w.heap.size 5 _ 26 hR
        obtain ⟨s1, cs1, is1⟩ := HcA.out 0 hrl0
        rw [hp] at is1
        have ca := (hG.cellOf hbA).trans cs1
        simp only [Nat.add_zero] at ca
        have HA := Lib.hid fun W (hW : Grows wr W) => HAL.out s1 W ((is1.grows hG).grows hW)
        have hbA2 : bA < wr.heap.size := Nat.lt_of_lt_of_le hbA hG.size
        clear cs1 is1
        have HGx := Lib.hid hG
        have HR := Lib.hid hR
        clear hG hR HX HcA hcap3
        go_wp2_with (first | (go_at_call 68; (with_reducible refine (which_any _ _).mono ?_); rintro e w' ⟨rfl, h2, d2, rfl⟩) | (go_at_call 72; (with_reducible refine (HA.out _ ?ha72_1).mono ?_); (case ha72_1 => exact (by repeat' (first | (with_reducible exact Grows.refl _) | (with_reducible refine Grows.alloc ?_ _) | (with_reducible refine Grows.drew ?_) | (with_reducible refine Grows.ext ?_ _ _)))); rintro e w' ⟨rfl, h9, d9, rfl⟩))
        refine bodyPost_ret (res37 (N := w.heap.size) (row := #[.int .i64 (q0), .int .i64 (q1), .int .i64 (q2), .int .i64 (q3), .int .i64 (q4), .string ⟨#[]⟩]) ?hw37_1 rfl rfl rfl rfl) rfl ⟨rfl, (by repeat' (first | (with_reducible exact HGx.out) | (with_reducible exact Grows.refl _) | (with_reducible refine Grows.setCell ?_ (Nat.le_refl _) _) | (with_reducible refine Grows.alloc ?_ _) | (with_reducible refine Grows.drew ?_) | (with_reducible refine Grows.ext ?_ _ _)))⟩
        case hw37_1 => exact Grows.rowK (set6 HR.out) (by repeat' (first | (with_reducible exact Grows.refl _) | (with_reducible refine Grows.alloc ?_ _) | (with_reducible refine Grows.drew ?_) | (with_reducible refine Grows.ext ?_ _ _)))
    · have e2 : decide (k < r.length) = false := by simpa using hlt
      have HX := Lib.hid (exit37 HG0.out hs0 HZ0.out hL (values_stop Hone.out (Or.inl (by omega))) hown hb)
      clear Hone hown hb
      obtain ⟨hG, hR, a3, cap3, rfl, hcap3, hin3⟩ := HX.out
      have hsz2 : w.heap.size < wr.heap.size := (Array.getElem?_eq_some_iff.1 hR).1
      clear hin3
      have z0 := (cell_of_row wr w.heap.size 0 _ 26 (0, 0) hR).trans (show _ = some (.int .i64 0) from rfl)
      have f0 := frozen_of_row wr w.heap.size 0 _ 26 hR
      have z1 := (cell_of_row wr w.heap.size 1 _ 26 (0, 0) hR).trans (show _ = some (.int .i64 0) from rfl)
      have f1 := frozen_of_row wr w.heap.size 1 _ 26 hR
      have z2 := (cell_of_row wr w.heap.size 2 _ 26 (0, 0) hR).trans (show _ = some (.int .i64 0) from rfl)
      have f2 := frozen_of_row wr w.heap.size 2 _ 26 hR
      have z3 := (cell_of_row wr w.heap.size 3 _ 26 (0, 0) hR).trans (show _ = some (.int .i64 0) from rfl)
      have f3 := frozen_of_row wr w.heap.size 3 _ 26 hR
      have z4 := (cell_of_row wr w.heap.size 4 _ 26 (0, 0) hR).trans (show _ = some (.int .i64 0) from rfl)
      have f4 := frozen_of_row wr w.heap.size 4 _ 26 hR
      have z5 := (cell_of_row wr w.heap.size 5 _ 26 (0, 0) hR).trans (show _ = some (.string ⟨#[]⟩) from rfl)
      have f5 := frozen_of_row wr w.heap.size 5 _ 26 hR
      obtain ⟨s1, cs1, is1⟩ := HcA.out 0 hrl0
      rw [hp] at is1
      have ca := (hG.cellOf hbA).trans cs1
      simp only [Nat.add_zero] at ca
      have HA := Lib.hid fun W (hW : Grows wr W) => HAL.out s1 W ((is1.grows hG).grows hW)
      have hbA2 : bA < wr.heap.size := Nat.lt_of_lt_of_le hbA hG.size
      clear cs1 is1
      have HGx := Lib.hid hG
      have HR := Lib.hid hR
      clear hG hR HX HcA hcap3
      go_wp2_with (first | (go_at_call 68; (with_reducible refine (which_any _ _).mono ?_); rintro e w' ⟨rfl, h2, d2, rfl⟩) | (go_at_call 72; (with_reducible refine (HA.out _ ?ha72_2).mono ?_); (case ha72_2 => exact (by repeat' (first | (with_reducible exact Grows.refl _) | (with_reducible refine Grows.alloc ?_ _) | (with_reducible refine Grows.drew ?_) | (with_reducible refine Grows.ext ?_ _ _)))); rintro e w' ⟨rfl, h9, d9, rfl⟩))
      refine bodyPost_ret (res37 (N := w.heap.size) (row := #[.int .i64 (q0), .int .i64 (q1), .int .i64 (q2), .int .i64 (q3), .int .i64 (q4), .string ⟨#[]⟩]) ?hw37_2 rfl rfl rfl rfl) rfl ⟨rfl, (by repeat' (first | (with_reducible exact HGx.out) | (with_reducible exact Grows.refl _) | (with_reducible refine Grows.setCell ?_ (Nat.le_refl _) _) | (with_reducible refine Grows.alloc ?_ _) | (with_reducible refine Grows.drew ?_) | (with_reducible refine Grows.ext ?_ _ _)))⟩
      case hw37_2 => exact Grows.rowK (set6 HR.out) (by repeat' (first | (with_reducible exact Grows.refl _) | (with_reducible refine Grows.alloc ?_ _) | (with_reducible refine Grows.drew ?_) | (with_reducible refine Grows.ext ?_ _ _)))
set_option maxRecDepth 100000 in
set_option maxHeartbeats 8000000 in
theorem front37_a1 (v : Value) (r : List (List Int)) (hl : r.length ≤ 1000) (hr0 : r ≠ []) (w : World) (h : RowAt w v r) (q : Pen × Bool) (p : List Int) (hp : r[0]?.getD [] = p) (hok : okPart p = true) (hq : aloneR p = q) (L : Nat) (hL : (valuesL r).length = L) (v0 : Int) (hv0 : (valuesL r)[0]?.getD 0 = v0) (h2 : 2 ≤ L) (hw : whichV v0 < 0) : Calls Tryd.prog 37 #[v] w (Ret (.tuple #[.agg (ansC q), .bool q.2, .int .i64 1]) w) := by
  obtain ⟨a, cap, rfl, -, hin⟩ := h
  obtain ⟨i0, hi, hz0, hz1, hz2⟩ := info_parts infoInt
  obtain ⟨bA, offA, rfl, hbA, hcA⟩ := hin hr0
  have hrl0 : 0 < r.length := List.length_pos_iff.2 hr0
  have HAL := Lib.hid fun s W (h : IntsAt W s p) => alone72 s p hok W h
  rw [hq] at HAL
  clear hq hok
  obtain ⟨q0, q1, q2, q3, q4, hA⟩ := ansC_form q
  rw [hA] at HAL ⊢
  generalize q.2 = yes at *
  clear hA q
  have e38 : decide ((L : Int) ≥ 2) = true := by simp; omega
  have e44 : decide (whichV v0 ≥ 0) = false := by simp; omega
  have HcA := Lib.hid hcA
  clear hcA hin
  go_enter Tryd.func37, Tryd.ntmps37
  go_upto_region 1 with fail
  refine abs_worldM (fun W => W.heap.size = w.heap.size + 1 ∧ Grows w W ∧ W.heap[w.heap.size]? = some (.cells #[.int .i64 0, .int .i64 0, .int .i64 0, .int .i64 0, .int .i64 0, .string ⟨#[]⟩] 26 (0, 0))) ⟨by simp, (by repeat' (first | (with_reducible exact Grows.refl _) | (with_reducible refine Grows.alloc ?_ _) | (with_reducible refine Grows.drew ?_) | (with_reducible refine Grows.ext ?_ _ _))), heap_alloc_new w _⟩ ?_
  rintro W0 ⟨hs0, hG0, hZ0⟩
  have HZ0 := Lib.hid hZ0
  have HG0 := Lib.hid hG0
  clear hZ0 hG0
  go_wp2_with fail
  go_loopw [5, 6] (fun x i wr => ∃ (k : Nat), k ≤ r.length ∧ i = .int .i64 k ∧ (∀ p ∈ r.take k, p.length = 1) ∧ wr.ownsRow (w.heap.size + 1) 3 1 x k ((valuesL (r.take k)).map (.int .i64 ·)) ∧ Below (w.heap.size + 1) W0 wr) (fun _ i _ => r.length - (intOf i).toNat)
  case atStart => exact ⟨0, Nat.zero_le _, rfl, by simp, World.ownsRow_nil _ _ _ _, Below.refl _ _⟩
  case round =>
    obtain ⟨k, hk, rfl, hone, hown, hb⟩ := hrel
    have hsz : w.heap.size + 1 ≤ wr.heap.size := by have := hb.size; omega
    have Hone := Lib.hid hone
    clear hone
    by_cases hlt : k < r.length
    · have e2 : decide (k < r.length) = true := by simpa using hlt
      obtain ⟨s, hs, a2, cap2, rfl, -, hin2⟩ := HcA.out k hlt
      have c0 := (hb.cell (p := ⟨bA, offA + k, none⟩) (by show bA < w.heap.size + 1; omega)).trans ((HG0.out.cellOf hbA).trans hs)
      have Hin2 := Lib.hid hin2
      have hbw : bA < wr.heap.size := by omega
      clear hs hin2
      by_cases h1 : (r[k]?.getD []).length = 1
      · have Hvs := Lib.hid (values_succ hlt Hone.out h1)
        have Hos := Lib.hid (ones_succ hlt Hone.out h1)
        generalize r[k]?.getD [] = p at *
        obtain ⟨x, rfl⟩ := List.length_eq_one_iff.1 h1
        obtain ⟨b2, off2, rfl, hb2, hc2⟩ := Hin2.out (by simp)
        have c1 := (hb.cell (p := ⟨b2, off2 + 0, none⟩) (by show b2 < w.heap.size + 1; omega)).trans ((HG0.out.cellOf hb2).trans (hc2 0 (by simp)))
        simp only [Nat.add_zero, List.length_singleton, List.getElem?_cons_zero, Option.getD_some] at c0 c1 Hvs
        have hbw2 : b2 < wr.heap.size := by omega
        clear Hin2 hc2 h1
        by_cases hx : 0 < x
        · have hmx : max 0 x = x := by omega
          go_wp2_with (at_builtin; refine wpList_append_own _ rfl (.tmp 25) (.tmp 34) 36 rfl (w.heap.size + 1) 3 i0 (.int .i64 0) 1 8 Tryd.underlying36 hi hz0 hz1 hz2 rfl (by decide) _ _ _ rfl (hown.alloc _) ⟨wr.heap.size, 0, none⟩ 1 1 [.int .i64 (x)] rfl rfl (cell_one_new _ _ _) (by simp [Value.oneCell']) (by unfold maxLen; omega) (by omega) (by simp; omega) ?_; intro v' w1 hown' hgrow _)
          have hb1 := (hb.alloc hsz (.cells #[.int .i64 (x)] 3)).grown hgrow (by simp; omega) (fun q e => (hown.lt q e).1)
          clear hgrow hown hb
          go_wp2
          go_roundw
          case rel => exact ⟨k + 1, by omega, by go_num, Hos.out, by rw [Hvs.out, List.map_append, List.map_singleton, hmx]; exact hown', hb1⟩
          case measure => simp [intOf]; omega
        · have hx' : x ≤ 0 := by omega
          have hmx : max 0 x = 0 := by omega
          go_wp2_with (at_builtin; refine wpList_append_own _ rfl (.tmp 25) (.tmp 34) 36 rfl (w.heap.size + 1) 3 i0 (.int .i64 0) 1 8 Tryd.underlying36 hi hz0 hz1 hz2 rfl (by decide) _ _ _ rfl (hown.alloc _) ⟨wr.heap.size, 0, none⟩ 1 1 [.int .i64 (0)] rfl rfl (cell_one_new _ _ _) (by simp [Value.oneCell']) (by unfold maxLen; omega) (by omega) (by simp; omega) ?_; intro v' w1 hown' hgrow _)
          have hb1 := (hb.alloc hsz (.cells #[.int .i64 (0)] 3)).grown hgrow (by simp; omega) (fun q e => (hown.lt q e).1)
          clear hgrow hown hb
          go_wp2
          go_roundw
          case rel => exact ⟨k + 1, by omega, by go_num, Hos.out, by rw [Hvs.out, List.map_append, List.map_singleton, hmx]; exact hown', hb1⟩
          case measure => simp [intOf]; omega
      · have e1 : (((r[k]?.getD []).length : Int) == 1) = false := by simp; omega
        have HX := Lib.hid (exit37 HG0.out hs0 HZ0.out hL (values_stop Hone.out (Or.inr h1)) hown hb)
        generalize (r[k]?.getD []).length = m at *
        clear h1 Hin2 Hone hown hb
        obtain ⟨hG, hR, a3, cap3, rfl, hcap3, hin3⟩ := HX.out
        have hsz2 : w.heap.size < wr.heap.size := (Array.getElem?_eq_some_iff.1 hR).1
        obtain ⟨b3, off3, rfl, hb1, hb2, hc3⟩ := hin3 (by omega)
        have c0 := hc3 0 (by omega)
        rw [hv0] at c0
        simp only [Nat.add_zero] at c0
        clear hc3 hin3
        have hn1 : ¬ b3 = w.heap.size := by omega
        have hn2 : ¬ w.heap.size = b3 := by omega
        have z0 := (cell_of_row wr w.heap.size 0 _ 26 (0, 0) hR).trans (show _ = some (.int .i64 0) from rfl)
        have f0 := frozen_of_row wr w.heap.size 0 _ 26 hR
        have z1 := (cell_of_row wr w.heap.size 1 _ 26 (0, 0) hR).trans (show _ = some (.int .i64 0) from rfl)
        have f1 := frozen_of_row wr w.heap.size 1 _ 26 hR
        have z2 := (cell_of_row wr w.heap.size 2 _ 26 (0, 0) hR).trans (show _ = some (.int .i64 0) from rfl)
        have f2 := frozen_of_row wr w.heap.size 2 _ 26 hR
        have z3 := (cell_of_row wr w.heap.size 3 _ 26 (0, 0) hR).trans (show _ = some (.int .i64 0) from rfl)
        have f3 := frozen_of_row wr w.heap.size 3 _ 26 hR
        have z4 := (cell_of_row wr w.heap.size 4 _ 26 (0, 0) hR).trans (show _ = some (.int .i64 0) from rfl)
        have f4 := frozen_of_row wr w.heap.size 4 _ 26 hR
        have z5 := (cell_of_row wr w.heap.size 5 _ 26 (0, 0) hR).trans (show _ = some (.string ⟨#[]⟩) from rfl)
        have f5 := frozen_of_row wr w.heap.size 5 _ 26 hR
        obtain ⟨s1, cs1, is1⟩ := HcA.out 0 hrl0
        rw [hp] at is1
        have ca := (hG.cellOf hbA).trans cs1
        simp only [Nat.add_zero] at ca
        have HA := Lib.hid fun W (hW : Grows wr W) => HAL.out s1 W ((is1.grows hG).grows hW)
        have hbA2 : bA < wr.heap.size := Nat.lt_of_lt_of_le hbA hG.size
        clear cs1 is1
        have HGx := Lib.hid hG
        have HR := Lib.hid hR
        clear hG hR HX HcA hcap3
        go_wp2_with (first | (go_at_call 68; (with_reducible refine (which_any _ _).mono ?_); rintro e w' ⟨rfl, h2, d2, rfl⟩) | (go_at_call 72; (with_reducible refine (HA.out _ ?ha72_3).mono ?_); (case ha72_3 => exact (by repeat' (first | (with_reducible exact Grows.refl _) | (with_reducible refine Grows.alloc ?_ _) | (with_reducible refine Grows.drew ?_) | (with_reducible refine Grows.ext ?_ _ _)))); rintro e w' ⟨rfl, h9, d9, rfl⟩))
        refine bodyPost_ret (res37 (N := w.heap.size) (row := #[.int .i64 (q0), .int .i64 (q1), .int .i64 (q2), .int .i64 (q3), .int .i64 (q4), .string ⟨#[]⟩]) ?hw37_3 rfl rfl rfl rfl) rfl ⟨rfl, (by repeat' (first | (with_reducible exact HGx.out) | (with_reducible exact Grows.refl _) | (with_reducible refine Grows.setCell ?_ (Nat.le_refl _) _) | (with_reducible refine Grows.alloc ?_ _) | (with_reducible refine Grows.drew ?_) | (with_reducible refine Grows.ext ?_ _ _)))⟩
        case hw37_3 => exact Grows.rowK (set6 HR.out) (by repeat' (first | (with_reducible exact Grows.refl _) | (with_reducible refine Grows.alloc ?_ _) | (with_reducible refine Grows.drew ?_) | (with_reducible refine Grows.ext ?_ _ _)))
    · have e2 : decide (k < r.length) = false := by simpa using hlt
      have HX := Lib.hid (exit37 HG0.out hs0 HZ0.out hL (values_stop Hone.out (Or.inl (by omega))) hown hb)
      clear Hone hown hb
      obtain ⟨hG, hR, a3, cap3, rfl, hcap3, hin3⟩ := HX.out
      have hsz2 : w.heap.size < wr.heap.size := (Array.getElem?_eq_some_iff.1 hR).1
      obtain ⟨b3, off3, rfl, hb1, hb2, hc3⟩ := hin3 (by omega)
      have c0 := hc3 0 (by omega)
      rw [hv0] at c0
      simp only [Nat.add_zero] at c0
      clear hc3 hin3
      have hn1 : ¬ b3 = w.heap.size := by omega
      have hn2 : ¬ w.heap.size = b3 := by omega
      have z0 := (cell_of_row wr w.heap.size 0 _ 26 (0, 0) hR).trans (show _ = some (.int .i64 0) from rfl)
      have f0 := frozen_of_row wr w.heap.size 0 _ 26 hR
      have z1 := (cell_of_row wr w.heap.size 1 _ 26 (0, 0) hR).trans (show _ = some (.int .i64 0) from rfl)
      have f1 := frozen_of_row wr w.heap.size 1 _ 26 hR
      have z2 := (cell_of_row wr w.heap.size 2 _ 26 (0, 0) hR).trans (show _ = some (.int .i64 0) from rfl)
      have f2 := frozen_of_row wr w.heap.size 2 _ 26 hR
      have z3 := (cell_of_row wr w.heap.size 3 _ 26 (0, 0) hR).trans (show _ = some (.int .i64 0) from rfl)
      have f3 := frozen_of_row wr w.heap.size 3 _ 26 hR
      have z4 := (cell_of_row wr w.heap.size 4 _ 26 (0, 0) hR).trans (show _ = some (.int .i64 0) from rfl)
      have f4 := frozen_of_row wr w.heap.size 4 _ 26 hR
      have z5 := (cell_of_row wr w.heap.size 5 _ 26 (0, 0) hR).trans (show _ = some (.string ⟨#[]⟩) from rfl)
      have f5 := frozen_of_row wr w.heap.size 5 _ 26 hR
      obtain ⟨s1, cs1, is1⟩ := HcA.out 0 hrl0
      rw [hp] at is1
      have ca := (hG.cellOf hbA).trans cs1
      simp only [Nat.add_zero] at ca
      have HA := Lib.hid fun W (hW : Grows wr W) => HAL.out s1 W ((is1.grows hG).grows hW)
      have hbA2 : bA < wr.heap.size := Nat.lt_of_lt_of_le hbA hG.size
      clear cs1 is1
      have HGx := Lib.hid hG
      have HR := Lib.hid hR
      clear hG hR HX HcA hcap3
      go_wp2_with (first | (go_at_call 68; (with_reducible refine (which_any _ _).mono ?_); rintro e w' ⟨rfl, h2, d2, rfl⟩) | (go_at_call 72; (with_reducible refine (HA.out _ ?ha72_4).mono ?_); (case ha72_4 => exact (by repeat' (first | (with_reducible exact Grows.refl _) | (with_reducible refine Grows.alloc ?_ _) | (with_reducible refine Grows.drew ?_) | (with_reducible refine Grows.ext ?_ _ _)))); rintro e w' ⟨rfl, h9, d9, rfl⟩))
      refine bodyPost_ret (res37 (N := w.heap.size) (row := #[.int .i64 (q0), .int .i64 (q1), .int .i64 (q2), .int .i64 (q3), .int .i64 (q4), .string ⟨#[]⟩]) ?hw37_4 rfl rfl rfl rfl) rfl ⟨rfl, (by repeat' (first | (with_reducible exact HGx.out) | (with_reducible exact Grows.refl _) | (with_reducible refine Grows.setCell ?_ (Nat.le_refl _) _) | (with_reducible refine Grows.alloc ?_ _) | (with_reducible refine Grows.drew ?_) | (with_reducible refine Grows.ext ?_ _ _)))⟩
      case hw37_4 => exact Grows.rowK (set6 HR.out) (by repeat' (first | (with_reducible exact Grows.refl _) | (with_reducible refine Grows.alloc ?_ _) | (with_reducible refine Grows.drew ?_) | (with_reducible refine Grows.ext ?_ _ _)))
end Go.Proofs.YtobbphkfdhjmdaaDoor

namespace Go.Proofs.YtobbphkfdhjmdaaDoor
open Go.RowKit

set_option maxRecDepth 100000 in
set_option maxHeartbeats 8000000 in
theorem front37_f (v : Value) (r : List (List Int)) (hl : r.length ≤ 1000) (hr0 : r ≠ []) (w : World) (h : RowAt w v r) (q : Pen × Bool) (p : List Int) (hp : r[0]?.getD [] = p) (hok : okPart p = true) (hq : aloneR p = q) (L : Nat) (hL : (valuesL r).length = L) (v0 : Int) (hv0 : (valuesL r)[0]?.getD 0 = v0) (v1 : Int) (hv1 : (valuesL r)[1]?.getD 0 = v1) (h2 : 2 ≤ L) (hw : 0 ≤ whichV v0) (h5 : v1 ≠ 5) (h22 : v1 ≠ 2) : Calls Tryd.prog 37 #[v] w (Ret (.tuple #[.agg (ansC q), .bool q.2, .int .i64 1]) w) := by
  obtain ⟨a, cap, rfl, -, hin⟩ := h
  obtain ⟨i0, hi, hz0, hz1, hz2⟩ := info_parts infoInt
  obtain ⟨bA, offA, rfl, hbA, hcA⟩ := hin hr0
  have hrl0 : 0 < r.length := List.length_pos_iff.2 hr0
  have HAL := Lib.hid fun s W (h : IntsAt W s p) => alone72 s p hok W h
  rw [hq] at HAL
  clear hq hok
  obtain ⟨q0, q1, q2, q3, q4, hA⟩ := ansC_form q
  rw [hA] at HAL ⊢
  generalize q.2 = yes at *
  clear hA q
  have e38 : decide ((L : Int) ≥ 2) = true := by simp; omega
  have e44 : decide (whichV v0 ≥ 0) = true := by simpa using hw
  have e5 : (v1 == 5) = false := by simpa using h5
  have e22 : (v1 == 2) = false := by simpa using h22
  have HcA := Lib.hid hcA
  clear hcA hin
  go_enter Tryd.func37, Tryd.ntmps37
  go_upto_region 1 with fail
  refine abs_worldM (fun W => W.heap.size = w.heap.size + 1 ∧ Grows w W ∧ W.heap[w.heap.size]? = some (.cells #[.int .i64 0, .int .i64 0, .int .i64 0, .int .i64 0, .int .i64 0, .string ⟨#[]⟩] 26 (0, 0))) ⟨by simp, (by repeat' (first | (with_reducible exact Grows.refl _) | (with_reducible refine Grows.alloc ?_ _) | (with_reducible refine Grows.drew ?_) | (with_reducible refine Grows.ext ?_ _ _))), heap_alloc_new w _⟩ ?_
  rintro W0 ⟨hs0, hG0, hZ0⟩
  have HZ0 := Lib.hid hZ0
  have HG0 := Lib.hid hG0
  clear hZ0 hG0
  go_wp2_with fail
  go_loopw [5, 6] (fun x i wr => ∃ (k : Nat), k ≤ r.length ∧ i = .int .i64 k ∧ (∀ p ∈ r.take k, p.length = 1) ∧ wr.ownsRow (w.heap.size + 1) 3 1 x k ((valuesL (r.take k)).map (.int .i64 ·)) ∧ Below (w.heap.size + 1) W0 wr) (fun _ i _ => r.length - (intOf i).toNat)
  case atStart => exact ⟨0, Nat.zero_le _, rfl, by simp, World.ownsRow_nil _ _ _ _, Below.refl _ _⟩
  case round =>
    obtain ⟨k, hk, rfl, hone, hown, hb⟩ := hrel
    have hsz : w.heap.size + 1 ≤ wr.heap.size := by have := hb.size; omega
    have Hone := Lib.hid hone
    clear hone
    by_cases hlt : k < r.length
    · have e2 : decide (k < r.length) = true := by simpa using hlt
      obtain ⟨s, hs, a2, cap2, rfl, -, hin2⟩ := HcA.out k hlt
      have c0 := (hb.cell (p := ⟨bA, offA + k, none⟩) (by show bA < w.heap.size + 1; omega)).trans ((HG0.out.cellOf hbA).trans hs)
      have Hin2 := Lib.hid hin2
      have hbw : bA < wr.heap.size := by omega
      clear hs hin2
      by_cases h1 : (r[k]?.getD []).length = 1
      · have Hvs := Lib.hid (values_succ hlt Hone.out h1)
        have Hos := Lib.hid (ones_succ hlt Hone.out h1)
        generalize r[k]?.getD [] = p at *
        obtain ⟨x, rfl⟩ := List.length_eq_one_iff.1 h1
        obtain ⟨b2, off2, rfl, hb2, hc2⟩ := Hin2.out (by simp)
        have c1 := (hb.cell (p := ⟨b2, off2 + 0, none⟩) (by show b2 < w.heap.size + 1; omega)).trans ((HG0.out.cellOf hb2).trans (hc2 0 (by simp)))
        simp only [Nat.add_zero, List.length_singleton, List.getElem?_cons_zero, Option.getD_some] at c0 c1 Hvs
        have hbw2 : b2 < wr.heap.size := by omega
        clear Hin2 hc2 h1
        by_cases hx : 0 < x
        · have hmx : max 0 x = x := by omega
          go_wp2_with (at_builtin; refine wpList_append_own _ rfl (.tmp 25) (.tmp 34) 36 rfl (w.heap.size + 1) 3 i0 (.int .i64 0) 1 8 Tryd.underlying36 hi hz0 hz1 hz2 rfl (by decide) _ _ _ rfl (hown.alloc _) ⟨wr.heap.size, 0, none⟩ 1 1 [.int .i64 (x)] rfl rfl (cell_one_new _ _ _) (by simp [Value.oneCell']) (by unfold maxLen; omega) (by omega) (by simp; omega) ?_; intro v' w1 hown' hgrow _)
          have hb1 := (hb.alloc hsz (.cells #[.int .i64 (x)] 3)).grown hgrow (by simp; omega) (fun q e => (hown.lt q e).1)
          clear hgrow hown hb
          go_wp2
          go_roundw
          case rel => exact ⟨k + 1, by omega, by go_num, Hos.out, by rw [Hvs.out, List.map_append, List.map_singleton, hmx]; exact hown', hb1⟩
          case measure => simp [intOf]; omega
        · have hx' : x ≤ 0 := by omega
          have hmx : max 0 x = 0 := by omega
          go_wp2_with (at_builtin; refine wpList_append_own _ rfl (.tmp 25) (.tmp 34) 36 rfl (w.heap.size + 1) 3 i0 (.int .i64 0) 1 8 Tryd.underlying36 hi hz0 hz1 hz2 rfl (by decide) _ _ _ rfl (hown.alloc _) ⟨wr.heap.size, 0, none⟩ 1 1 [.int .i64 (0)] rfl rfl (cell_one_new _ _ _) (by simp [Value.oneCell']) (by unfold maxLen; omega) (by omega) (by simp; omega) ?_; intro v' w1 hown' hgrow _)
          have hb1 := (hb.alloc hsz (.cells #[.int .i64 (0)] 3)).grown hgrow (by simp; omega) (fun q e => (hown.lt q e).1)
          clear hgrow hown hb
          go_wp2
          go_roundw
          case rel => exact ⟨k + 1, by omega, by go_num, Hos.out, by rw [Hvs.out, List.map_append, List.map_singleton, hmx]; exact hown', hb1⟩
          case measure => simp [intOf]; omega
      · have e1 : (((r[k]?.getD []).length : Int) == 1) = false := by simp; omega
        have HX := Lib.hid (exit37 HG0.out hs0 HZ0.out hL (values_stop Hone.out (Or.inr h1)) hown hb)
        generalize (r[k]?.getD []).length = m at *
        clear h1 Hin2 Hone hown hb
        obtain ⟨hG, hR, a3, cap3, rfl, hcap3, hin3⟩ := HX.out
        have hsz2 : w.heap.size < wr.heap.size := (Array.getElem?_eq_some_iff.1 hR).1
        obtain ⟨b3, off3, rfl, hb1, hb2, hc3⟩ := hin3 (by omega)
        have c0 := hc3 0 (by omega)
        have c1 := hc3 1 (by omega)
        rw [hv0] at c0
        rw [hv1] at c1
        simp only [Nat.add_zero] at c0
        clear hc3 hin3
        have hl1 : (1 : Int) < (L : Int) := by omega
        have hn1 : ¬ b3 = w.heap.size := by omega
        have hn2 : ¬ w.heap.size = b3 := by omega
        have z0 := (cell_of_row wr w.heap.size 0 _ 26 (0, 0) hR).trans (show _ = some (.int .i64 0) from rfl)
        have f0 := frozen_of_row wr w.heap.size 0 _ 26 hR
        have z1 := (cell_of_row wr w.heap.size 1 _ 26 (0, 0) hR).trans (show _ = some (.int .i64 0) from rfl)
        have f1 := frozen_of_row wr w.heap.size 1 _ 26 hR
        have z2 := (cell_of_row wr w.heap.size 2 _ 26 (0, 0) hR).trans (show _ = some (.int .i64 0) from rfl)
        have f2 := frozen_of_row wr w.heap.size 2 _ 26 hR
        have z3 := (cell_of_row wr w.heap.size 3 _ 26 (0, 0) hR).trans (show _ = some (.int .i64 0) from rfl)
        have f3 := frozen_of_row wr w.heap.size 3 _ 26 hR
        have z4 := (cell_of_row wr w.heap.size 4 _ 26 (0, 0) hR).trans (show _ = some (.int .i64 0) from rfl)
        have f4 := frozen_of_row wr w.heap.size 4 _ 26 hR
        have z5 := (cell_of_row wr w.heap.size 5 _ 26 (0, 0) hR).trans (show _ = some (.string ⟨#[]⟩) from rfl)
        have f5 := frozen_of_row wr w.heap.size 5 _ 26 hR
        obtain ⟨s1, cs1, is1⟩ := HcA.out 0 hrl0
        rw [hp] at is1
        have ca := (hG.cellOf hbA).trans cs1
        simp only [Nat.add_zero] at ca
        have HA := Lib.hid fun W (hW : Grows wr W) => HAL.out s1 W ((is1.grows hG).grows hW)
        have hbA2 : bA < wr.heap.size := Nat.lt_of_lt_of_le hbA hG.size
        clear cs1 is1
        have HGx := Lib.hid hG
        have HR := Lib.hid hR
        clear hG hR HX HcA hcap3
        go_wp2_with (go_at_call 68; (with_reducible refine (which_any _ _).mono ?_); rintro e w' ⟨rfl, h2, d2, rfl⟩)
        refine wp_region_grow (by kernel_rfl) (by kernel_rfl) ?_
        repeat (first | go_big_quiet_step ((fail)) | quiet_step ((fail)))
        refine wpQuiet_nil ?_
        rintro _ ⟨g183, rfl⟩
        go_wp2_with (go_at_call 72; (with_reducible refine (HA.out _ ?ha72_5).mono ?_); (case ha72_5 => exact (by repeat' (first | (with_reducible exact Grows.refl _) | (with_reducible refine Grows.alloc ?_ _) | (with_reducible refine Grows.drew ?_) | (with_reducible refine Grows.ext ?_ _ _)))); rintro e w' ⟨rfl, h9, d9, rfl⟩)
        refine bodyPost_ret (res37 (N := w.heap.size) (row := #[.int .i64 (q0), .int .i64 (q1), .int .i64 (q2), .int .i64 (q3), .int .i64 (q4), .string ⟨#[]⟩]) ?hw37_5 rfl rfl rfl rfl) rfl ⟨rfl, (by repeat' (first | (with_reducible exact HGx.out) | (with_reducible exact Grows.refl _) | (with_reducible refine Grows.setCell ?_ (Nat.le_refl _) _) | (with_reducible refine Grows.alloc ?_ _) | (with_reducible refine Grows.drew ?_) | (with_reducible refine Grows.ext ?_ _ _)))⟩
        case hw37_5 => exact Grows.rowK (set6 HR.out) (by repeat' (first | (with_reducible exact Grows.refl _) | (with_reducible refine Grows.alloc ?_ _) | (with_reducible refine Grows.drew ?_) | (with_reducible refine Grows.ext ?_ _ _)))
    · have e2 : decide (k < r.length) = false := by simpa using hlt
      have HX := Lib.hid (exit37 HG0.out hs0 HZ0.out hL (values_stop Hone.out (Or.inl (by omega))) hown hb)
      clear Hone hown hb
      obtain ⟨hG, hR, a3, cap3, rfl, hcap3, hin3⟩ := HX.out
      have hsz2 : w.heap.size < wr.heap.size := (Array.getElem?_eq_some_iff.1 hR).1
      obtain ⟨b3, off3, rfl, hb1, hb2, hc3⟩ := hin3 (by omega)
      have c0 := hc3 0 (by omega)
      have c1 := hc3 1 (by omega)
      rw [hv0] at c0
      rw [hv1] at c1
      simp only [Nat.add_zero] at c0
      clear hc3 hin3
      have hl1 : (1 : Int) < (L : Int) := by omega
      have hn1 : ¬ b3 = w.heap.size := by omega
      have hn2 : ¬ w.heap.size = b3 := by omega
      have z0 := (cell_of_row wr w.heap.size 0 _ 26 (0, 0) hR).trans (show _ = some (.int .i64 0) from rfl)
      have f0 := frozen_of_row wr w.heap.size 0 _ 26 hR
      have z1 := (cell_of_row wr w.heap.size 1 _ 26 (0, 0) hR).trans (show _ = some (.int .i64 0) from rfl)
      have f1 := frozen_of_row wr w.heap.size 1 _ 26 hR
      have z2 := (cell_of_row wr w.heap.size 2 _ 26 (0, 0) hR).trans (show _ = some (.int .i64 0) from rfl)
      have f2 := frozen_of_row wr w.heap.size 2 _ 26 hR
      have z3 := (cell_of_row wr w.heap.size 3 _ 26 (0, 0) hR).trans (show _ = some (.int .i64 0) from rfl)
      have f3 := frozen_of_row wr w.heap.size 3 _ 26 hR
      have z4 := (cell_of_row wr w.heap.size 4 _ 26 (0, 0) hR).trans (show _ = some (.int .i64 0) from rfl)
      have f4 := frozen_of_row wr w.heap.size 4 _ 26 hR
      have z5 := (cell_of_row wr w.heap.size 5 _ 26 (0, 0) hR).trans (show _ = some (.string ⟨#[]⟩) from rfl)
      have f5 := frozen_of_row wr w.heap.size 5 _ 26 hR
      obtain ⟨s1, cs1, is1⟩ := HcA.out 0 hrl0
      rw [hp] at is1
      have ca := (hG.cellOf hbA).trans cs1
      simp only [Nat.add_zero] at ca
      have HA := Lib.hid fun W (hW : Grows wr W) => HAL.out s1 W ((is1.grows hG).grows hW)
      have hbA2 : bA < wr.heap.size := Nat.lt_of_lt_of_le hbA hG.size
      clear cs1 is1
      have HGx := Lib.hid hG
      have HR := Lib.hid hR
      clear hG hR HX HcA hcap3
      go_wp2_with (go_at_call 68; (with_reducible refine (which_any _ _).mono ?_); rintro e w' ⟨rfl, h2, d2, rfl⟩)
      refine wp_region_grow (by kernel_rfl) (by kernel_rfl) ?_
      repeat (first | go_big_quiet_step ((fail)) | quiet_step ((fail)))
      refine wpQuiet_nil ?_
      rintro _ ⟨g183, rfl⟩
      go_wp2_with (go_at_call 72; (with_reducible refine (HA.out _ ?ha72_6).mono ?_); (case ha72_6 => exact (by repeat' (first | (with_reducible exact Grows.refl _) | (with_reducible refine Grows.alloc ?_ _) | (with_reducible refine Grows.drew ?_) | (with_reducible refine Grows.ext ?_ _ _)))); rintro e w' ⟨rfl, h9, d9, rfl⟩)
      refine bodyPost_ret (res37 (N := w.heap.size) (row := #[.int .i64 (q0), .int .i64 (q1), .int .i64 (q2), .int .i64 (q3), .int .i64 (q4), .string ⟨#[]⟩]) ?hw37_6 rfl rfl rfl rfl) rfl ⟨rfl, (by repeat' (first | (with_reducible exact HGx.out) | (with_reducible exact Grows.refl _) | (with_reducible refine Grows.setCell ?_ (Nat.le_refl _) _) | (with_reducible refine Grows.alloc ?_ _) | (with_reducible refine Grows.drew ?_) | (with_reducible refine Grows.ext ?_ _ _)))⟩
      case hw37_6 => exact Grows.rowK (set6 HR.out) (by repeat' (first | (with_reducible exact Grows.refl _) | (with_reducible refine Grows.alloc ?_ _) | (with_reducible refine Grows.drew ?_) | (with_reducible refine Grows.ext ?_ _ _)))
set_option maxRecDepth 100000 in
set_option maxHeartbeats 8000000 in
theorem front37_b (v : Value) (r : List (List Int)) (hl : r.length ≤ 1000) (hr0 : r ≠ []) (w : World) (h : RowAt w v r) (q : Pen × Bool) (L : Nat) (hL : (valuesL r).length = L) (v0 : Int) (hv0 : (valuesL r)[0]?.getD 0 = v0) (v1 : Int) (hv1 : (valuesL r)[1]?.getD 0 = v1) (v2 : Int) (hv2 : (valuesL r)[2]?.getD 0 = v2) (_h2 : 2 ≤ L) (hw : 0 ≤ whichV v0) (h3 : 3 ≤ L) (h5 : v1 = 5) (hwi : withinL [v2] = true) (hq : q = (colored (whichV v0) 1 v2, true)) : Calls Tryd.prog 37 #[v] w (Ret (.tuple #[.agg (ansC q), .bool q.2, .int .i64 3]) w) := by
  obtain ⟨a, cap, rfl, -, hin⟩ := h
  obtain ⟨i0, hi, hz0, hz1, hz2⟩ := info_parts infoInt
  obtain ⟨bA, offA, rfl, hbA, hcA⟩ := hin hr0
  have hrl0 : 0 < r.length := List.length_pos_iff.2 hr0
  subst hq
  simp only [ansC, if_true, colored]
  have e38 : decide ((L : Int) ≥ 2) = true := by simp; omega
  have e44 : decide (whichV v0 ≥ 0) = true := by simpa using hw
  subst h5
  have e57 : decide ((L : Int) ≥ 3) = true := by simp; omega
  have HWI := Lib.hid fun v W (h : IntsAt W v [v2]) => rwithin_any v [v2] (by simp) W h
  rw [hwi] at HWI
  have HcA := Lib.hid hcA
  clear hcA hin
  go_enter Tryd.func37, Tryd.ntmps37
  go_upto_region 1 with fail
  refine abs_worldM (fun W => W.heap.size = w.heap.size + 1 ∧ Grows w W ∧ W.heap[w.heap.size]? = some (.cells #[.int .i64 0, .int .i64 0, .int .i64 0, .int .i64 0, .int .i64 0, .string ⟨#[]⟩] 26 (0, 0))) ⟨by simp, (by repeat' (first | (with_reducible exact Grows.refl _) | (with_reducible refine Grows.alloc ?_ _) | (with_reducible refine Grows.drew ?_) | (with_reducible refine Grows.ext ?_ _ _))), heap_alloc_new w _⟩ ?_
  rintro W0 ⟨hs0, hG0, hZ0⟩
  have HZ0 := Lib.hid hZ0
  have HG0 := Lib.hid hG0
  clear hZ0 hG0
  go_wp2_with fail
  go_loopw [5, 6] (fun x i wr => ∃ (k : Nat), k ≤ r.length ∧ i = .int .i64 k ∧ (∀ p ∈ r.take k, p.length = 1) ∧ wr.ownsRow (w.heap.size + 1) 3 1 x k ((valuesL (r.take k)).map (.int .i64 ·)) ∧ Below (w.heap.size + 1) W0 wr) (fun _ i _ => r.length - (intOf i).toNat)
  case atStart => exact ⟨0, Nat.zero_le _, rfl, by simp, World.ownsRow_nil _ _ _ _, Below.refl _ _⟩
  case round =>
    obtain ⟨k, hk, rfl, hone, hown, hb⟩ := hrel
    have hsz : w.heap.size + 1 ≤ wr.heap.size := by have := hb.size; omega
    have Hone := Lib.hid hone
    clear hone
    by_cases hlt : k < r.length
    · have e2 : decide (k < r.length) = true := by simpa using hlt
      obtain ⟨s, hs, a2, cap2, rfl, -, hin2⟩ := HcA.out k hlt
      have c0 := (hb.cell (p := ⟨bA, offA + k, none⟩) (by show bA < w.heap.size + 1; omega)).trans ((HG0.out.cellOf hbA).trans hs)
      have Hin2 := Lib.hid hin2
      have hbw : bA < wr.heap.size := by omega
      clear hs hin2
      by_cases h1 : (r[k]?.getD []).length = 1
      · have Hvs := Lib.hid (values_succ hlt Hone.out h1)
        have Hos := Lib.hid (ones_succ hlt Hone.out h1)
        generalize r[k]?.getD [] = p at *
        obtain ⟨x, rfl⟩ := List.length_eq_one_iff.1 h1
        obtain ⟨b2, off2, rfl, hb2, hc2⟩ := Hin2.out (by simp)
        have c1 := (hb.cell (p := ⟨b2, off2 + 0, none⟩) (by show b2 < w.heap.size + 1; omega)).trans ((HG0.out.cellOf hb2).trans (hc2 0 (by simp)))
        simp only [Nat.add_zero, List.length_singleton, List.getElem?_cons_zero, Option.getD_some] at c0 c1 Hvs
        have hbw2 : b2 < wr.heap.size := by omega
        clear Hin2 hc2 h1
        by_cases hx : 0 < x
        · have hmx : max 0 x = x := by omega
          go_wp2_with (at_builtin; refine wpList_append_own _ rfl (.tmp 25) (.tmp 34) 36 rfl (w.heap.size + 1) 3 i0 (.int .i64 0) 1 8 Tryd.underlying36 hi hz0 hz1 hz2 rfl (by decide) _ _ _ rfl (hown.alloc _) ⟨wr.heap.size, 0, none⟩ 1 1 [.int .i64 (x)] rfl rfl (cell_one_new _ _ _) (by simp [Value.oneCell']) (by unfold maxLen; omega) (by omega) (by simp; omega) ?_; intro v' w1 hown' hgrow _)
          have hb1 := (hb.alloc hsz (.cells #[.int .i64 (x)] 3)).grown hgrow (by simp; omega) (fun q e => (hown.lt q e).1)
          clear hgrow hown hb
          go_wp2
          go_roundw
          case rel => exact ⟨k + 1, by omega, by go_num, Hos.out, by rw [Hvs.out, List.map_append, List.map_singleton, hmx]; exact hown', hb1⟩
          case measure => simp [intOf]; omega
        · have hx' : x ≤ 0 := by omega
          have hmx : max 0 x = 0 := by omega
          go_wp2_with (at_builtin; refine wpList_append_own _ rfl (.tmp 25) (.tmp 34) 36 rfl (w.heap.size + 1) 3 i0 (.int .i64 0) 1 8 Tryd.underlying36 hi hz0 hz1 hz2 rfl (by decide) _ _ _ rfl (hown.alloc _) ⟨wr.heap.size, 0, none⟩ 1 1 [.int .i64 (0)] rfl rfl (cell_one_new _ _ _) (by simp [Value.oneCell']) (by unfold maxLen; omega) (by omega) (by simp; omega) ?_; intro v' w1 hown' hgrow _)
          have hb1 := (hb.alloc hsz (.cells #[.int .i64 (0)] 3)).grown hgrow (by simp; omega) (fun q e => (hown.lt q e).1)
          clear hgrow hown hb
          go_wp2
          go_roundw
          case rel => exact ⟨k + 1, by omega, by go_num, Hos.out, by rw [Hvs.out, List.map_append, List.map_singleton, hmx]; exact hown', hb1⟩
          case measure => simp [intOf]; omega
      · have e1 : (((r[k]?.getD []).length : Int) == 1) = false := by simp; omega
        have HX := Lib.hid (exit37 HG0.out hs0 HZ0.out hL (values_stop Hone.out (Or.inr h1)) hown hb)
        generalize (r[k]?.getD []).length = m at *
        clear h1 Hin2 Hone hown hb
        obtain ⟨hG, hR, a3, cap3, rfl, hcap3, hin3⟩ := HX.out
        have hsz2 : w.heap.size < wr.heap.size := (Array.getElem?_eq_some_iff.1 hR).1
        obtain ⟨b3, off3, rfl, hb1, hb2, hc3⟩ := hin3 (by omega)
        have c0 := hc3 0 (by omega)
        have c1 := hc3 1 (by omega)
        have c2 := hc3 2 (by omega)
        rw [hv0] at c0
        rw [hv1] at c1
        rw [hv2] at c2
        simp only [Nat.add_zero] at c0
        clear hc3 hin3
        have hl1 : (1 : Int) < (L : Int) := by omega
        have hl2 : (2 : Int) < (L : Int) := by omega
        have hn1 : ¬ b3 = w.heap.size := by omega
        have hn2 : ¬ w.heap.size = b3 := by omega
        have z0 := (cell_of_row wr w.heap.size 0 _ 26 (0, 0) hR).trans (show _ = some (.int .i64 0) from rfl)
        have f0 := frozen_of_row wr w.heap.size 0 _ 26 hR
        have z1 := (cell_of_row wr w.heap.size 1 _ 26 (0, 0) hR).trans (show _ = some (.int .i64 0) from rfl)
        have f1 := frozen_of_row wr w.heap.size 1 _ 26 hR
        have z2 := (cell_of_row wr w.heap.size 2 _ 26 (0, 0) hR).trans (show _ = some (.int .i64 0) from rfl)
        have f2 := frozen_of_row wr w.heap.size 2 _ 26 hR
        have z3 := (cell_of_row wr w.heap.size 3 _ 26 (0, 0) hR).trans (show _ = some (.int .i64 0) from rfl)
        have f3 := frozen_of_row wr w.heap.size 3 _ 26 hR
        have z4 := (cell_of_row wr w.heap.size 4 _ 26 (0, 0) hR).trans (show _ = some (.int .i64 0) from rfl)
        have f4 := frozen_of_row wr w.heap.size 4 _ 26 hR
        have z5 := (cell_of_row wr w.heap.size 5 _ 26 (0, 0) hR).trans (show _ = some (.string ⟨#[]⟩) from rfl)
        have f5 := frozen_of_row wr w.heap.size 5 _ 26 hR
        have HGx := Lib.hid hG
        have HR := Lib.hid hR
        clear hG hR HX HcA hcap3
        go_wp2_with (first | (go_at_call 68; (with_reducible refine (which_any _ _).mono ?_); rintro e w' ⟨rfl, h2, d2, rfl⟩) | (go_at_call 69; (with_reducible refine (HWI.out _ _ ?hi69_7).mono ?hm69_7); (case hi69_7 => exact told_at1 (by simp) v2); rintro e w' ⟨rfl, rfl⟩) | (go_at_call 70; (with_reducible refine (col70_any _ _ _ _).mono ?_); rintro e w' ⟨rfl, h4, d4, rfl⟩))
        refine bodyPost_ret (res37 (N := w.heap.size) (row := #[.int .i64 (39), .int .i64 (whichV v0), .int .i64 (0), .int .i64 (1), .int .i64 (v2), .string ⟨#[]⟩]) ?hw37_7 rfl rfl rfl rfl) rfl ⟨rfl, (by repeat' (first | (with_reducible exact HGx.out) | (with_reducible exact Grows.refl _) | (with_reducible refine Grows.setCell ?_ (Nat.le_refl _) _) | (with_reducible refine Grows.alloc ?_ _) | (with_reducible refine Grows.drew ?_) | (with_reducible refine Grows.ext ?_ _ _)))⟩
        case hw37_7 => exact Grows.rowK (set6 HR.out) (by repeat' (first | (with_reducible exact Grows.refl _) | (with_reducible refine Grows.alloc ?_ _) | (with_reducible refine Grows.drew ?_) | (with_reducible refine Grows.ext ?_ _ _)))
    · have e2 : decide (k < r.length) = false := by simpa using hlt
      have HX := Lib.hid (exit37 HG0.out hs0 HZ0.out hL (values_stop Hone.out (Or.inl (by omega))) hown hb)
      clear Hone hown hb
      obtain ⟨hG, hR, a3, cap3, rfl, hcap3, hin3⟩ := HX.out
      have hsz2 : w.heap.size < wr.heap.size := (Array.getElem?_eq_some_iff.1 hR).1
      obtain ⟨b3, off3, rfl, hb1, hb2, hc3⟩ := hin3 (by omega)
      have c0 := hc3 0 (by omega)
      have c1 := hc3 1 (by omega)
      have c2 := hc3 2 (by omega)
      rw [hv0] at c0
      rw [hv1] at c1
      rw [hv2] at c2
      simp only [Nat.add_zero] at c0
      clear hc3 hin3
      have hl1 : (1 : Int) < (L : Int) := by omega
      have hl2 : (2 : Int) < (L : Int) := by omega
      have hn1 : ¬ b3 = w.heap.size := by omega
      have hn2 : ¬ w.heap.size = b3 := by omega
      have z0 := (cell_of_row wr w.heap.size 0 _ 26 (0, 0) hR).trans (show _ = some (.int .i64 0) from rfl)
      have f0 := frozen_of_row wr w.heap.size 0 _ 26 hR
      have z1 := (cell_of_row wr w.heap.size 1 _ 26 (0, 0) hR).trans (show _ = some (.int .i64 0) from rfl)
      have f1 := frozen_of_row wr w.heap.size 1 _ 26 hR
      have z2 := (cell_of_row wr w.heap.size 2 _ 26 (0, 0) hR).trans (show _ = some (.int .i64 0) from rfl)
      have f2 := frozen_of_row wr w.heap.size 2 _ 26 hR
      have z3 := (cell_of_row wr w.heap.size 3 _ 26 (0, 0) hR).trans (show _ = some (.int .i64 0) from rfl)
      have f3 := frozen_of_row wr w.heap.size 3 _ 26 hR
      have z4 := (cell_of_row wr w.heap.size 4 _ 26 (0, 0) hR).trans (show _ = some (.int .i64 0) from rfl)
      have f4 := frozen_of_row wr w.heap.size 4 _ 26 hR
      have z5 := (cell_of_row wr w.heap.size 5 _ 26 (0, 0) hR).trans (show _ = some (.string ⟨#[]⟩) from rfl)
      have f5 := frozen_of_row wr w.heap.size 5 _ 26 hR
      have HGx := Lib.hid hG
      have HR := Lib.hid hR
      clear hG hR HX HcA hcap3
      go_wp2_with (first | (go_at_call 68; (with_reducible refine (which_any _ _).mono ?_); rintro e w' ⟨rfl, h2, d2, rfl⟩) | (go_at_call 69; (with_reducible refine (HWI.out _ _ ?hi69_8).mono ?hm69_8); (case hi69_8 => exact told_at1 (by simp) v2); rintro e w' ⟨rfl, rfl⟩) | (go_at_call 70; (with_reducible refine (col70_any _ _ _ _).mono ?_); rintro e w' ⟨rfl, h4, d4, rfl⟩))
      refine bodyPost_ret (res37 (N := w.heap.size) (row := #[.int .i64 (39), .int .i64 (whichV v0), .int .i64 (0), .int .i64 (1), .int .i64 (v2), .string ⟨#[]⟩]) ?hw37_8 rfl rfl rfl rfl) rfl ⟨rfl, (by repeat' (first | (with_reducible exact HGx.out) | (with_reducible exact Grows.refl _) | (with_reducible refine Grows.setCell ?_ (Nat.le_refl _) _) | (with_reducible refine Grows.alloc ?_ _) | (with_reducible refine Grows.drew ?_) | (with_reducible refine Grows.ext ?_ _ _)))⟩
      case hw37_8 => exact Grows.rowK (set6 HR.out) (by repeat' (first | (with_reducible exact Grows.refl _) | (with_reducible refine Grows.alloc ?_ _) | (with_reducible refine Grows.drew ?_) | (with_reducible refine Grows.ext ?_ _ _)))
set_option maxRecDepth 100000 in
set_option maxHeartbeats 8000000 in
theorem front37_d1 (v : Value) (r : List (List Int)) (hl : r.length ≤ 1000) (hr0 : r ≠ []) (w : World) (h : RowAt w v r) (q : Pen × Bool) (L : Nat) (hL : (valuesL r).length = L) (v0 : Int) (hv0 : (valuesL r)[0]?.getD 0 = v0) (v1 : Int) (hv1 : (valuesL r)[1]?.getD 0 = v1) (h2 : 2 ≤ L) (hw : 0 ≤ whichV v0) (h3 : L < 3) (h5 : v1 = 5) (hq : q = (noPen, false)) : Calls Tryd.prog 37 #[v] w (Ret (.tuple #[.agg (ansC q), .bool q.2, .int .i64 ((min 3 r.length : Nat) : Int)]) w) := by
  obtain ⟨a, cap, rfl, -, hin⟩ := h
  obtain ⟨i0, hi, hz0, hz1, hz2⟩ := info_parts infoInt
  obtain ⟨bA, offA, rfl, hbA, hcA⟩ := hin hr0
  have hrl0 : 0 < r.length := List.length_pos_iff.2 hr0
  subst hq
  simp only [ansC, Bool.false_eq_true, if_false, noPen]
  have e38 : decide ((L : Int) ≥ 2) = true := by simp; omega
  have e44 : decide (whichV v0 ≥ 0) = true := by simpa using hw
  subst h5
  have e57 : decide ((L : Int) ≥ 3) = false := by simp; omega
  have HcA := Lib.hid hcA
  clear hcA hin
  go_enter Tryd.func37, Tryd.ntmps37
  go_upto_region 1 with fail
  refine abs_worldM (fun W => W.heap.size = w.heap.size + 1 ∧ Grows w W ∧ W.heap[w.heap.size]? = some (.cells #[.int .i64 0, .int .i64 0, .int .i64 0, .int .i64 0, .int .i64 0, .string ⟨#[]⟩] 26 (0, 0))) ⟨by simp, (by repeat' (first | (with_reducible exact Grows.refl _) | (with_reducible refine Grows.alloc ?_ _) | (with_reducible refine Grows.drew ?_) | (with_reducible refine Grows.ext ?_ _ _))), heap_alloc_new w _⟩ ?_
  rintro W0 ⟨hs0, hG0, hZ0⟩
  have HZ0 := Lib.hid hZ0
  have HG0 := Lib.hid hG0
  clear hZ0 hG0
  go_wp2_with fail
  go_loopw [5, 6] (fun x i wr => ∃ (k : Nat), k ≤ r.length ∧ i = .int .i64 k ∧ (∀ p ∈ r.take k, p.length = 1) ∧ wr.ownsRow (w.heap.size + 1) 3 1 x k ((valuesL (r.take k)).map (.int .i64 ·)) ∧ Below (w.heap.size + 1) W0 wr) (fun _ i _ => r.length - (intOf i).toNat)
  case atStart => exact ⟨0, Nat.zero_le _, rfl, by simp, World.ownsRow_nil _ _ _ _, Below.refl _ _⟩
  case round =>
    obtain ⟨k, hk, rfl, hone, hown, hb⟩ := hrel
    have hsz : w.heap.size + 1 ≤ wr.heap.size := by have := hb.size; omega
    have Hone := Lib.hid hone
    clear hone
    by_cases hlt : k < r.length
    · have e2 : decide (k < r.length) = true := by simpa using hlt
      obtain ⟨s, hs, a2, cap2, rfl, -, hin2⟩ := HcA.out k hlt
      have c0 := (hb.cell (p := ⟨bA, offA + k, none⟩) (by show bA < w.heap.size + 1; omega)).trans ((HG0.out.cellOf hbA).trans hs)
      have Hin2 := Lib.hid hin2
      have hbw : bA < wr.heap.size := by omega
      clear hs hin2
      by_cases h1 : (r[k]?.getD []).length = 1
      · have Hvs := Lib.hid (values_succ hlt Hone.out h1)
        have Hos := Lib.hid (ones_succ hlt Hone.out h1)
        generalize r[k]?.getD [] = p at *
        obtain ⟨x, rfl⟩ := List.length_eq_one_iff.1 h1
        obtain ⟨b2, off2, rfl, hb2, hc2⟩ := Hin2.out (by simp)
        have c1 := (hb.cell (p := ⟨b2, off2 + 0, none⟩) (by show b2 < w.heap.size + 1; omega)).trans ((HG0.out.cellOf hb2).trans (hc2 0 (by simp)))
        simp only [Nat.add_zero, List.length_singleton, List.getElem?_cons_zero, Option.getD_some] at c0 c1 Hvs
        have hbw2 : b2 < wr.heap.size := by omega
        clear Hin2 hc2 h1
        by_cases hx : 0 < x
        · have hmx : max 0 x = x := by omega
          go_wp2_with (at_builtin; refine wpList_append_own _ rfl (.tmp 25) (.tmp 34) 36 rfl (w.heap.size + 1) 3 i0 (.int .i64 0) 1 8 Tryd.underlying36 hi hz0 hz1 hz2 rfl (by decide) _ _ _ rfl (hown.alloc _) ⟨wr.heap.size, 0, none⟩ 1 1 [.int .i64 (x)] rfl rfl (cell_one_new _ _ _) (by simp [Value.oneCell']) (by unfold maxLen; omega) (by omega) (by simp; omega) ?_; intro v' w1 hown' hgrow _)
          have hb1 := (hb.alloc hsz (.cells #[.int .i64 (x)] 3)).grown hgrow (by simp; omega) (fun q e => (hown.lt q e).1)
          clear hgrow hown hb
          go_wp2
          go_roundw
          case rel => exact ⟨k + 1, by omega, by go_num, Hos.out, by rw [Hvs.out, List.map_append, List.map_singleton, hmx]; exact hown', hb1⟩
          case measure => simp [intOf]; omega
        · have hx' : x ≤ 0 := by omega
          have hmx : max 0 x = 0 := by omega
          go_wp2_with (at_builtin; refine wpList_append_own _ rfl (.tmp 25) (.tmp 34) 36 rfl (w.heap.size + 1) 3 i0 (.int .i64 0) 1 8 Tryd.underlying36 hi hz0 hz1 hz2 rfl (by decide) _ _ _ rfl (hown.alloc _) ⟨wr.heap.size, 0, none⟩ 1 1 [.int .i64 (0)] rfl rfl (cell_one_new _ _ _) (by simp [Value.oneCell']) (by unfold maxLen; omega) (by omega) (by simp; omega) ?_; intro v' w1 hown' hgrow _)
          have hb1 := (hb.alloc hsz (.cells #[.int .i64 (0)] 3)).grown hgrow (by simp; omega) (fun q e => (hown.lt q e).1)
          clear hgrow hown hb
          go_wp2
          go_roundw
          case rel => exact ⟨k + 1, by omega, by go_num, Hos.out, by rw [Hvs.out, List.map_append, List.map_singleton, hmx]; exact hown', hb1⟩
          case measure => simp [intOf]; omega
      · have e1 : (((r[k]?.getD []).length : Int) == 1) = false := by simp; omega
        have HX := Lib.hid (exit37 HG0.out hs0 HZ0.out hL (values_stop Hone.out (Or.inr h1)) hown hb)
        generalize (r[k]?.getD []).length = m at *
        clear h1 Hin2 Hone hown hb
        by_cases hr : r.length < 3
        · have hm : min 3 r.length = r.length := by omega
          have HMn := Lib.hid hm
          clear hm
          obtain ⟨hG, hR, a3, cap3, rfl, hcap3, hin3⟩ := HX.out
          have hsz2 : w.heap.size < wr.heap.size := (Array.getElem?_eq_some_iff.1 hR).1
          obtain ⟨b3, off3, rfl, hb1, hb2, hc3⟩ := hin3 (by omega)
          have c0 := hc3 0 (by omega)
          have c1 := hc3 1 (by omega)
          rw [hv0] at c0
          rw [hv1] at c1
          simp only [Nat.add_zero] at c0
          clear hc3 hin3
          have hl1 : (1 : Int) < (L : Int) := by omega
          have hn1 : ¬ b3 = w.heap.size := by omega
          have hn2 : ¬ w.heap.size = b3 := by omega
          have z0 := (cell_of_row wr w.heap.size 0 _ 26 (0, 0) hR).trans (show _ = some (.int .i64 0) from rfl)
          have f0 := frozen_of_row wr w.heap.size 0 _ 26 hR
          have z1 := (cell_of_row wr w.heap.size 1 _ 26 (0, 0) hR).trans (show _ = some (.int .i64 0) from rfl)
          have f1 := frozen_of_row wr w.heap.size 1 _ 26 hR
          have z2 := (cell_of_row wr w.heap.size 2 _ 26 (0, 0) hR).trans (show _ = some (.int .i64 0) from rfl)
          have f2 := frozen_of_row wr w.heap.size 2 _ 26 hR
          have z3 := (cell_of_row wr w.heap.size 3 _ 26 (0, 0) hR).trans (show _ = some (.int .i64 0) from rfl)
          have f3 := frozen_of_row wr w.heap.size 3 _ 26 hR
          have z4 := (cell_of_row wr w.heap.size 4 _ 26 (0, 0) hR).trans (show _ = some (.int .i64 0) from rfl)
          have f4 := frozen_of_row wr w.heap.size 4 _ 26 hR
          have z5 := (cell_of_row wr w.heap.size 5 _ 26 (0, 0) hR).trans (show _ = some (.string ⟨#[]⟩) from rfl)
          have f5 := frozen_of_row wr w.heap.size 5 _ 26 hR
          have HGx := Lib.hid hG
          have HR := Lib.hid hR
          clear hG hR HX HcA hcap3
          generalize r.length = n at *
          go_wp2_with (go_at_call 68; (with_reducible refine (which_any _ _).mono ?_); rintro e w' ⟨rfl, h2, d2, rfl⟩)
          refine wp_region_grow (by kernel_rfl) (by kernel_rfl) ?_
          repeat (first | go_big_quiet_step ((fail)) | quiet_step ((fail)))
          refine wpQuiet_nil ?_
          rintro _ ⟨g183, rfl⟩
          go_wp2_with fail
          refine bodyPost_ret (res37 (N := w.heap.size) (row := #[.int .i64 (0), .int .i64 (0), .int .i64 (0), .int .i64 (0), .int .i64 (0), .string ⟨#[]⟩]) ?hw37_11_9 rfl rfl rfl rfl) rfl ⟨(by rw [HMn.out]; rfl), (by repeat' (first | (with_reducible exact HGx.out) | (with_reducible exact Grows.refl _) | (with_reducible refine Grows.setCell ?_ (Nat.le_refl _) _) | (with_reducible refine Grows.alloc ?_ _) | (with_reducible refine Grows.drew ?_) | (with_reducible refine Grows.ext ?_ _ _)))⟩
          case hw37_11_9 => exact Grows.rowK (set6 HR.out) (by repeat' (first | (with_reducible exact Grows.refl _) | (with_reducible refine Grows.alloc ?_ _) | (with_reducible refine Grows.drew ?_) | (with_reducible refine Grows.ext ?_ _ _)))
        · have hm : min 3 r.length = 3 := by omega
          have HMn := Lib.hid hm
          clear hm
          obtain ⟨hG, hR, a3, cap3, rfl, hcap3, hin3⟩ := HX.out
          have hsz2 : w.heap.size < wr.heap.size := (Array.getElem?_eq_some_iff.1 hR).1
          obtain ⟨b3, off3, rfl, hb1, hb2, hc3⟩ := hin3 (by omega)
          have c0 := hc3 0 (by omega)
          have c1 := hc3 1 (by omega)
          rw [hv0] at c0
          rw [hv1] at c1
          simp only [Nat.add_zero] at c0
          clear hc3 hin3
          have hl1 : (1 : Int) < (L : Int) := by omega
          have hn1 : ¬ b3 = w.heap.size := by omega
          have hn2 : ¬ w.heap.size = b3 := by omega
          have z0 := (cell_of_row wr w.heap.size 0 _ 26 (0, 0) hR).trans (show _ = some (.int .i64 0) from rfl)
          have f0 := frozen_of_row wr w.heap.size 0 _ 26 hR
          have z1 := (cell_of_row wr w.heap.size 1 _ 26 (0, 0) hR).trans (show _ = some (.int .i64 0) from rfl)
          have f1 := frozen_of_row wr w.heap.size 1 _ 26 hR
          have z2 := (cell_of_row wr w.heap.size 2 _ 26 (0, 0) hR).trans (show _ = some (.int .i64 0) from rfl)
          have f2 := frozen_of_row wr w.heap.size 2 _ 26 hR
          have z3 := (cell_of_row wr w.heap.size 3 _ 26 (0, 0) hR).trans (show _ = some (.int .i64 0) from rfl)
          have f3 := frozen_of_row wr w.heap.size 3 _ 26 hR
          have z4 := (cell_of_row wr w.heap.size 4 _ 26 (0, 0) hR).trans (show _ = some (.int .i64 0) from rfl)
          have f4 := frozen_of_row wr w.heap.size 4 _ 26 hR
          have z5 := (cell_of_row wr w.heap.size 5 _ 26 (0, 0) hR).trans (show _ = some (.string ⟨#[]⟩) from rfl)
          have f5 := frozen_of_row wr w.heap.size 5 _ 26 hR
          have HGx := Lib.hid hG
          have HR := Lib.hid hR
          clear hG hR HX HcA hcap3
          generalize r.length = n at *
          go_wp2_with (go_at_call 68; (with_reducible refine (which_any _ _).mono ?_); rintro e w' ⟨rfl, h2, d2, rfl⟩)
          refine wp_region_grow (by kernel_rfl) (by kernel_rfl) ?_
          repeat (first | go_big_quiet_step ((fail)) | quiet_step ((fail)))
          refine wpQuiet_nil ?_
          rintro _ ⟨g183, rfl⟩
          go_wp2_with fail
          refine bodyPost_ret (res37 (N := w.heap.size) (row := #[.int .i64 (0), .int .i64 (0), .int .i64 (0), .int .i64 (0), .int .i64 (0), .string ⟨#[]⟩]) ?hw37_11_10 rfl rfl rfl rfl) rfl ⟨(by rw [HMn.out]; rfl), (by repeat' (first | (with_reducible exact HGx.out) | (with_reducible exact Grows.refl _) | (with_reducible refine Grows.setCell ?_ (Nat.le_refl _) _) | (with_reducible refine Grows.alloc ?_ _) | (with_reducible refine Grows.drew ?_) | (with_reducible refine Grows.ext ?_ _ _)))⟩
          case hw37_11_10 => exact Grows.rowK (set6 HR.out) (by repeat' (first | (with_reducible exact Grows.refl _) | (with_reducible refine Grows.alloc ?_ _) | (with_reducible refine Grows.drew ?_) | (with_reducible refine Grows.ext ?_ _ _)))
    · have e2 : decide (k < r.length) = false := by simpa using hlt
      have HX := Lib.hid (exit37 HG0.out hs0 HZ0.out hL (values_stop Hone.out (Or.inl (by omega))) hown hb)
      clear Hone hown hb
      by_cases hr : r.length < 3
      · have hm : min 3 r.length = r.length := by omega
        have HMn := Lib.hid hm
        clear hm
        obtain ⟨hG, hR, a3, cap3, rfl, hcap3, hin3⟩ := HX.out
        have hsz2 : w.heap.size < wr.heap.size := (Array.getElem?_eq_some_iff.1 hR).1
        obtain ⟨b3, off3, rfl, hb1, hb2, hc3⟩ := hin3 (by omega)
        have c0 := hc3 0 (by omega)
        have c1 := hc3 1 (by omega)
        rw [hv0] at c0
        rw [hv1] at c1
        simp only [Nat.add_zero] at c0
        clear hc3 hin3
        have hl1 : (1 : Int) < (L : Int) := by omega
        have hn1 : ¬ b3 = w.heap.size := by omega
        have hn2 : ¬ w.heap.size = b3 := by omega
        have z0 := (cell_of_row wr w.heap.size 0 _ 26 (0, 0) hR).trans (show _ = some (.int .i64 0) from rfl)
        have f0 := frozen_of_row wr w.heap.size 0 _ 26 hR
        have z1 := (cell_of_row wr w.heap.size 1 _ 26 (0, 0) hR).trans (show _ = some (.int .i64 0) from rfl)
        have f1 := frozen_of_row wr w.heap.size 1 _ 26 hR
        have z2 := (cell_of_row wr w.heap.size 2 _ 26 (0, 0) hR).trans (show _ = some (.int .i64 0) from rfl)
        have f2 := frozen_of_row wr w.heap.size 2 _ 26 hR
        have z3 := (cell_of_row wr w.heap.size 3 _ 26 (0, 0) hR).trans (show _ = some (.int .i64 0) from rfl)
        have f3 := frozen_of_row wr w.heap.size 3 _ 26 hR
        have z4 := (cell_of_row wr w.heap.size 4 _ 26 (0, 0) hR).trans (show _ = some (.int .i64 0) from rfl)
        have f4 := frozen_of_row wr w.heap.size 4 _ 26 hR
        have z5 := (cell_of_row wr w.heap.size 5 _ 26 (0, 0) hR).trans (show _ = some (.string ⟨#[]⟩) from rfl)
        have f5 := frozen_of_row wr w.heap.size 5 _ 26 hR
        have HGx := Lib.hid hG
        have HR := Lib.hid hR
        clear hG hR HX HcA hcap3
        generalize r.length = n at *
        go_wp2_with (go_at_call 68; (with_reducible refine (which_any _ _).mono ?_); rintro e w' ⟨rfl, h2, d2, rfl⟩)
        refine wp_region_grow (by kernel_rfl) (by kernel_rfl) ?_
        repeat (first | go_big_quiet_step ((fail)) | quiet_step ((fail)))
        refine wpQuiet_nil ?_
        rintro _ ⟨g183, rfl⟩
        go_wp2_with fail
        refine bodyPost_ret (res37 (N := w.heap.size) (row := #[.int .i64 (0), .int .i64 (0), .int .i64 (0), .int .i64 (0), .int .i64 (0), .string ⟨#[]⟩]) ?hw37_12_9 rfl rfl rfl rfl) rfl ⟨(by rw [HMn.out]; rfl), (by repeat' (first | (with_reducible exact HGx.out) | (with_reducible exact Grows.refl _) | (with_reducible refine Grows.setCell ?_ (Nat.le_refl _) _) | (with_reducible refine Grows.alloc ?_ _) | (with_reducible refine Grows.drew ?_) | (with_reducible refine Grows.ext ?_ _ _)))⟩
        case hw37_12_9 => exact Grows.rowK (set6 HR.out) (by repeat' (first | (with_reducible exact Grows.refl _) | (with_reducible refine Grows.alloc ?_ _) | (with_reducible refine Grows.drew ?_) | (with_reducible refine Grows.ext ?_ _ _)))
      · have hm : min 3 r.length = 3 := by omega
        have HMn := Lib.hid hm
        clear hm
        obtain ⟨hG, hR, a3, cap3, rfl, hcap3, hin3⟩ := HX.out
        have hsz2 : w.heap.size < wr.heap.size := (Array.getElem?_eq_some_iff.1 hR).1
        obtain ⟨b3, off3, rfl, hb1, hb2, hc3⟩ := hin3 (by omega)
        have c0 := hc3 0 (by omega)
        have c1 := hc3 1 (by omega)
        rw [hv0] at c0
        rw [hv1] at c1
        simp only [Nat.add_zero] at c0
        clear hc3 hin3
        have hl1 : (1 : Int) < (L : Int) := by omega
        have hn1 : ¬ b3 = w.heap.size := by omega
        have hn2 : ¬ w.heap.size = b3 := by omega
        have z0 := (cell_of_row wr w.heap.size 0 _ 26 (0, 0) hR).trans (show _ = some (.int .i64 0) from rfl)
        have f0 := frozen_of_row wr w.heap.size 0 _ 26 hR
        have z1 := (cell_of_row wr w.heap.size 1 _ 26 (0, 0) hR).trans (show _ = some (.int .i64 0) from rfl)
        have f1 := frozen_of_row wr w.heap.size 1 _ 26 hR
        have z2 := (cell_of_row wr w.heap.size 2 _ 26 (0, 0) hR).trans (show _ = some (.int .i64 0) from rfl)
        have f2 := frozen_of_row wr w.heap.size 2 _ 26 hR
        have z3 := (cell_of_row wr w.heap.size 3 _ 26 (0, 0) hR).trans (show _ = some (.int .i64 0) from rfl)
        have f3 := frozen_of_row wr w.heap.size 3 _ 26 hR
        have z4 := (cell_of_row wr w.heap.size 4 _ 26 (0, 0) hR).trans (show _ = some (.int .i64 0) from rfl)
        have f4 := frozen_of_row wr w.heap.size 4 _ 26 hR
        have z5 := (cell_of_row wr w.heap.size 5 _ 26 (0, 0) hR).trans (show _ = some (.string ⟨#[]⟩) from rfl)
        have f5 := frozen_of_row wr w.heap.size 5 _ 26 hR
        have HGx := Lib.hid hG
        have HR := Lib.hid hR
        clear hG hR HX HcA hcap3
        generalize r.length = n at *
        go_wp2_with (go_at_call 68; (with_reducible refine (which_any _ _).mono ?_); rintro e w' ⟨rfl, h2, d2, rfl⟩)
        refine wp_region_grow (by kernel_rfl) (by kernel_rfl) ?_
        repeat (first | go_big_quiet_step ((fail)) | quiet_step ((fail)))
        refine wpQuiet_nil ?_
        rintro _ ⟨g183, rfl⟩
        go_wp2_with fail
        refine bodyPost_ret (res37 (N := w.heap.size) (row := #[.int .i64 (0), .int .i64 (0), .int .i64 (0), .int .i64 (0), .int .i64 (0), .string ⟨#[]⟩]) ?hw37_12_10 rfl rfl rfl rfl) rfl ⟨(by rw [HMn.out]; rfl), (by repeat' (first | (with_reducible exact HGx.out) | (with_reducible exact Grows.refl _) | (with_reducible refine Grows.setCell ?_ (Nat.le_refl _) _) | (with_reducible refine Grows.alloc ?_ _) | (with_reducible refine Grows.drew ?_) | (with_reducible refine Grows.ext ?_ _ _)))⟩
        case hw37_12_10 => exact Grows.rowK (set6 HR.out) (by repeat' (first | (with_reducible exact Grows.refl _) | (with_reducible refine Grows.alloc ?_ _) | (with_reducible refine Grows.drew ?_) | (with_reducible refine Grows.ext ?_ _ _)))
end Go.Proofs.YtobbphkfdhjmdaaDoor

