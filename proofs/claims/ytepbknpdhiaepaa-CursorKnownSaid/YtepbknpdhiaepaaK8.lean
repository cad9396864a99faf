/-
  Walk: the law CursorKnown.
-/
import Derived.Test.YtepbknpdhiaepaaRows
import Derived.Test.YtepbknpdhiaepaaLt
import Derived.Test.YtepbknpdhiaepaaDefs
import Derived.Test.YtepbknpdhiaepaaK1
import Derived.Test.YtepbknpdhiaepaaK2
import Derived.Test.YtepbknpdhiaepaaK3
import Derived.Test.YtepbknpdhiaepaaK4
import Derived.Test.YtepbknpdhiaepaaArr
import Derived.Test.YtepbknpdhiaepaaEqs
import Derived.Test.YtepbknpdhiaepaaK5
import Derived.Test.YtepbknpdhiaepaaK6
import Derived.Test.YtepbknpdhiaepaaW2
import Derived.Test.YtepbknpdhiaepaaW11
import Derived.Test.YtepbknpdhiaepaaW14
import Derived.Test.YtepbknpdhiaepaaW16
import Derived.Test.YtepbknpdhiaepaaReg
import Derived.Test.YtepbknpdhiaepaaReg3
import Derived.WalkKit
import Derived.WalkSpells
import Derived.WalkLawsBesides
import Derived.Handy
import Derived.Laws.Rows
import Derived.Great.BuildSlice
import Derived.Deep.Heap
import Derived.IntWalk
import Derived.Lib.Hide
import Derived.Outline
import Derived.Deep.Light
import Derived.Deep.LoopGhost
import Derived.BigGuardPart
import Derived.BigQuiet
import Derived.Deep.QuietTactic
import Derived.Deep.RegionHeld3
import Derived.Deep.DeepCutAuto
namespace Go.Proofs.Ytepbknpdhiaepaa
open Go.RowKit

/-- Nine invalid fields lie in a block. -/
def BadAt (w : World) (B : Nat) : Prop := B < w.heap.size ∧ ∀ k : Nat, k < 9 → ∃ r c t b : Int, okF r c t b = false ∧ w.cell? ⟨B, k * 5, none⟩ = some (.int .i64 r) ∧ w.cell? ⟨B, k * 5 + 1, none⟩ = some (.int .i64 c) ∧ w.cell? ⟨B, k * 5 + 2, none⟩ = some (.int .i64 t) ∧ w.cell? ⟨B, k * 5 + 3, none⟩ = some (.int .i64 b) ∧ w.cell? ⟨B, k * 5 + 4, none⟩ = some (.bool false)
theorem BadAt.grows {w w' : World} {B : Nat} (h : BadAt w B) (g : Grows w w') : BadAt w' B := by
  obtain ⟨x, d, rfl⟩ := g
  obtain ⟨h0, h1⟩ := h
  refine ⟨by rw [ext_size]; omega, fun k hk => ?_⟩
  obtain ⟨r, c, t, b, h2, h3, h4, h5, h6, h7⟩ := h1 k hk
  exact ⟨r, c, t, b, h2, by rw [ext_cell _ _ _ _ _ h0]; exact h3, by rw [ext_cell _ _ _ _ _ h0]; exact h4, by rw [ext_cell _ _ _ _ _ h0]; exact h5, by rw [ext_cell _ _ _ _ _ h0]; exact h6, by rw [ext_cell _ _ _ _ _ h0]; exact h7⟩
theorem BadAt.of_row {w : World} {B : Nat} (h : w.heap[B]? = some (.cells #[.int .i64 0, .int .i64 0, .int .i64 0, .int .i64 0, .bool false, .int .i64 0, .int .i64 4, .int .i64 0, .int .i64 (-1), .bool false, .int .i64 41, .int .i64 4, .int .i64 0, .int .i64 40, .bool false, .int .i64 3, .int .i64 1, .int .i64 0, .int .i64 2, .bool false, .int .i64 3, .int .i64 81, .int .i64 0, .int .i64 2, .bool false, .int .i64 3, .int .i64 4, .int .i64 1, .int .i64 1, .bool false, .int .i64 3, .int .i64 4, .int .i64 (-1), .int .i64 2, .bool false, .int .i64 3, .int .i64 4, .int .i64 1, .int .i64 3, .bool false, .int .i64 3, .int .i64 4, .int .i64 0, .int .i64 0, .bool false] 23 (0, 0))) : BadAt w B := by
  refine ⟨(Array.getElem?_eq_some_iff.1 h).1, fun k hk => ?_⟩
  have hc := fun i => cell_of_row w B i _ 23 (0, 0) h
  have hk' : k = 0 ∨ k = 1 ∨ k = 2 ∨ k = 3 ∨ k = 4 ∨ k = 5 ∨ k = 6 ∨ k = 7 ∨ k = 8 := by omega
  rcases hk' with rfl | rfl | rfl | rfl | rfl | rfl | rfl | rfl | rfl
  · exact ⟨0, 0, 0, 0, by decide, (hc _).trans rfl, (hc _).trans rfl, (hc _).trans rfl, (hc _).trans rfl, (hc _).trans rfl⟩
  · exact ⟨0, 4, 0, (-1), by decide, (hc _).trans rfl, (hc _).trans rfl, (hc _).trans rfl, (hc _).trans rfl, (hc _).trans rfl⟩
  · exact ⟨41, 4, 0, 40, by decide, (hc _).trans rfl, (hc _).trans rfl, (hc _).trans rfl, (hc _).trans rfl, (hc _).trans rfl⟩
  · exact ⟨3, 1, 0, 2, by decide, (hc _).trans rfl, (hc _).trans rfl, (hc _).trans rfl, (hc _).trans rfl, (hc _).trans rfl⟩
  · exact ⟨3, 81, 0, 2, by decide, (hc _).trans rfl, (hc _).trans rfl, (hc _).trans rfl, (hc _).trans rfl, (hc _).trans rfl⟩
  · exact ⟨3, 4, 1, 1, by decide, (hc _).trans rfl, (hc _).trans rfl, (hc _).trans rfl, (hc _).trans rfl, (hc _).trans rfl⟩
  · exact ⟨3, 4, (-1), 2, by decide, (hc _).trans rfl, (hc _).trans rfl, (hc _).trans rfl, (hc _).trans rfl, (hc _).trans rfl⟩
  · exact ⟨3, 4, 1, 3, by decide, (hc _).trans rfl, (hc _).trans rfl, (hc _).trans rfl, (hc _).trans rfl, (hc _).trans rfl⟩
  · exact ⟨3, 4, 0, 0, by decide, (hc _).trans rfl, (hc _).trans rfl, (hc _).trans rfl, (hc _).trans rfl, (hc _).trans rfl⟩
theorem known_row {w : World} {a b : Obj} : ((w.alloc a).alloc b).heap[w.heap.size + 1]? = some b := by
  rw [← World.size_alloc w a]
  exact heap_alloc_new _ _
theorem row_at {w : World} {o : Obj} {n : Nat} (h : w.heap.size = n) : (w.alloc o).heap[n]? = some o := h ▸ heap_alloc_new w o
theorem retv {f : Nat} {args : Array Value} {w : World} {v v' : Value} (H : Calls Try.prog f args w (Ret v w)) (h : v = v') : Calls Try.prog f args w (Ret v' w) := h ▸ H
theorem move_badF (r c t b : Int) (h : okF r c t b = false) (w : World) : Calls Try.prog 17 #[.agg #[.int .i64 r, .int .i64 c, .int .i64 t, .int .i64 b, .bool false], .agg #[.int .i64 9, .int .i64 9, .bool false], .int .i64 9, .int .i64 (-9)] w (Ret (.tuple #[.agg #[.int .i64 0, .int .i64 0, .bool false], .int .i64 270]) w) := by
  have h1 := move_err r c t b 9 9 9 (-9) false false (by rw [h]; rfl) w
  rwa [h] at h1
theorem fs_badF (r c t b : Int) (h : okF r c t b = false) (w : World) : Calls Try.prog 39 #[.agg #[.int .i64 r, .int .i64 c, .int .i64 t, .int .i64 b, .bool false], .agg #[.bool true, .int .i64 0, .int .i64 0, .bool false, .int .i64 (-1), .int .i64 0, .int .i64 0, .int .i64 0, .int .i64 0, .int .i64 0, .int .i64 0, .int .i64 0, .int .i64 0, .int .i64 0, .int .i64 0, .int .i64 0, .int .i64 0, .int .i64 0, .bool false]] w (Ret (.tuple #[.agg #[.bool false, .int .i64 0, .int .i64 0, .bool false, .int .i64 0, .int .i64 0, .int .i64 0, .int .i64 0, .int .i64 0, .int .i64 0, .int .i64 0, .int .i64 0, .int .i64 0, .int .i64 0, .int .i64 0, .int .i64 0, .int .i64 0, .int .i64 0, .bool false], .int .i64 270]) w) :=
  fsaved_no r c t b false true 0 0 false (-1) 0 0 0 0 0 0 0 0 0 0 0 0 0 false 0 0 false (fun W => fit_no r c t b 0 0 false false h W) w
theorem ck_badF (r c t b : Int) (h : okF r c t b = false) (w : World) : Calls Try.prog 33 #[.agg #[.int .i64 r, .int .i64 c, .int .i64 t, .int .i64 b, .bool false]] w (Ret (.int .i64 270) w) := by
  have h1 := check_any r c t b false w
  rwa [h] at h1
theorem kM1 (w : World) : Calls Try.prog 17 #[.agg #[.int .i64 3, .int .i64 4, .int .i64 0, .int .i64 2, .bool false], .agg #[.int .i64 1, .int .i64 3, .bool true], .int .i64 2, .int .i64 1] w (Ret (.tuple #[.agg #[.int .i64 1, .int .i64 3, .bool false], .int .i64 0]) w) := retv (move_any 3 4 0 2 1 3 2 1 false true w) (by kernel_rfl)
theorem kM2 (w : World) : Calls Try.prog 17 #[.agg #[.int .i64 3, .int .i64 4, .int .i64 0, .int .i64 2, .bool false], .agg #[.int .i64 1, .int .i64 3, .bool true], .int .i64 4, .int .i64 1] w (Ret (.tuple #[.agg #[.int .i64 0, .int .i64 0, .bool false], .int .i64 2]) w) := retv (move_any 3 4 0 2 1 3 4 1 false true w) (by kernel_rfl)
theorem kM3 (w : World) : Calls Try.prog 17 #[.agg #[.int .i64 3, .int .i64 4, .int .i64 0, .int .i64 2, .bool false], .agg #[.int .i64 1, .int .i64 3, .bool true], .int .i64 0, .int .i64 (-1)] w (Ret (.tuple #[.agg #[.int .i64 0, .int .i64 0, .bool false], .int .i64 2]) w) := retv (move_any 3 4 0 2 1 3 0 (-1) false true w) (by kernel_rfl)
theorem kM4 (w : World) : Calls Try.prog 17 #[.agg #[.int .i64 3, .int .i64 4, .int .i64 0, .int .i64 2, .bool false], .agg #[.int .i64 1, .int .i64 1, .bool false], .int .i64 1, .int .i64 4611686018427387904] w (Ret (.tuple #[.agg #[.int .i64 2, .int .i64 1, .bool false], .int .i64 0]) w) := retv (move_any 3 4 0 2 1 1 1 4611686018427387904 false false w) (by kernel_rfl)
theorem kF1 (w : World) : Calls Try.prog 37 #[.agg #[.int .i64 3, .int .i64 4, .int .i64 0, .int .i64 2, .bool false], .agg #[.int .i64 9, .int .i64 9, .bool true]] w (Ret (.tuple #[.agg #[.int .i64 2, .int .i64 3, .bool false], .int .i64 0]) w) := retv (fit_any 3 4 0 2 9 9 false true rfl w) (by kernel_rfl)
theorem kF2 (w : World) : Calls Try.prog 37 #[.agg #[.int .i64 3, .int .i64 4, .int .i64 0, .int .i64 2, .bool false], .agg #[.int .i64 (-9), .int .i64 3, .bool true]] w (Ret (.tuple #[.agg #[.int .i64 0, .int .i64 3, .bool true], .int .i64 0]) w) := retv (fit_any 3 4 0 2 (-9) 3 false true rfl w) (by kernel_rfl)
theorem kG1 (w : World) : Calls Try.prog 25 #[.agg #[.int .i64 3, .int .i64 4, .int .i64 0, .int .i64 2, .bool false], .int .i64 4611686018427387904, .int .i64 (-9223372036854775808)] w (Ret (.tuple #[.agg #[.int .i64 2, .int .i64 0, .bool false], .int .i64 0]) w) := retv (goto_ok 3 4 0 2 4611686018427387904 (-9223372036854775808) false rfl w) (by kernel_rfl)
theorem kC1 (w : World) : Calls Try.prog 34 #[.agg #[.int .i64 3, .int .i64 4, .int .i64 0, .int .i64 2, .bool false], .agg #[.int .i64 1, .int .i64 3, .bool true]] w (Ret (.int .i64 0) w) := retv (checkAt_any 3 4 0 2 1 3 false true w) (by kernel_rfl)
theorem kS1 (w : World) : Calls Try.prog 39 #[.agg #[.int .i64 3, .int .i64 4, .int .i64 0, .int .i64 2, .bool false], .agg #[.bool true, .int .i64 5, .int .i64 3, .bool true, .int .i64 1, .int .i64 0, .int .i64 0, .int .i64 0, .int .i64 0, .int .i64 0, .int .i64 0, .int .i64 0, .int .i64 0, .int .i64 0, .int .i64 0, .int .i64 0, .int .i64 0, .int .i64 0, .bool true]] w (Ret (.tuple #[.agg #[.bool true, .int .i64 2, .int .i64 3, .bool true, .int .i64 1, .int .i64 0, .int .i64 0, .int .i64 0, .int .i64 0, .int .i64 0, .int .i64 0, .int .i64 0, .int .i64 0, .int .i64 0, .int .i64 0, .int .i64 0, .int .i64 0, .int .i64 0, .bool true], .int .i64 0]) w) := retv (fsaved_any 3 4 0 2 false true 5 3 true 1 0 0 0 0 0 0 0 0 0 0 0 0 0 true (by unfold In64; omega) (by unfold In64; omega) w) (by kernel_rfl)
theorem kS2 (w : World) : Calls Try.prog 39 #[.agg #[.int .i64 3, .int .i64 4, .int .i64 0, .int .i64 2, .bool false], .agg #[.bool false, .int .i64 0, .int .i64 0, .bool false, .int .i64 0, .int .i64 0, .int .i64 0, .int .i64 0, .int .i64 0, .int .i64 0, .int .i64 0, .int .i64 0, .int .i64 0, .int .i64 0, .int .i64 0, .int .i64 0, .int .i64 0, .int .i64 0, .bool true]] w (Ret (.tuple #[.agg #[.bool false, .int .i64 0, .int .i64 0, .bool false, .int .i64 0, .int .i64 0, .int .i64 0, .int .i64 0, .int .i64 0, .int .i64 0, .int .i64 0, .int .i64 0, .int .i64 0, .int .i64 0, .int .i64 0, .int .i64 0, .int .i64 0, .int .i64 0, .bool false], .int .i64 0]) w) := retv (fsaved_any 3 4 0 2 false false 0 0 false 0 0 0 0 0 0 0 0 0 0 0 0 0 0 true (by unfold In64; omega) (by unfold In64; omega) w) (by kernel_rfl)
theorem kS3 (w : World) : Calls Try.prog 39 #[.agg #[.int .i64 3, .int .i64 4, .int .i64 0, .int .i64 2, .bool false], .agg #[.bool true, .int .i64 0, .int .i64 0, .bool false, .int .i64 0, .int .i64 0, .int .i64 0, .int .i64 0, .int .i64 0, .int .i64 0, .int .i64 0, .int .i64 0, .int .i64 0, .int .i64 0, .int .i64 0, .int .i64 0, .int .i64 7, .int .i64 0, .bool false]] w (Ret (.tuple #[.agg #[.bool false, .int .i64 0, .int .i64 0, .bool false, .int .i64 0, .int .i64 0, .int .i64 0, .int .i64 0, .int .i64 0, .int .i64 0, .int .i64 0, .int .i64 0, .int .i64 0, .int .i64 0, .int .i64 0, .int .i64 0, .int .i64 0, .int .i64 0, .bool false], .int .i64 272]) w) := retv (fsaved_any 3 4 0 2 false true 0 0 false 0 0 0 0 0 0 0 0 0 0 0 0 7 0 false (by unfold In64; omega) (by unfold In64; omega) w) (by kernel_rfl)
theorem kV1 (w : World) : Calls Try.prog 42 #[.agg #[.int .i64 3, .int .i64 4, .int .i64 0, .int .i64 2, .bool false], .agg #[.bool true, .int .i64 5, .int .i64 3, .bool true, .int .i64 1, .int .i64 0, .int .i64 0, .int .i64 0, .int .i64 0, .int .i64 0, .int .i64 0, .int .i64 0, .int .i64 0, .int .i64 0, .int .i64 0, .int .i64 0, .int .i64 0, .int .i64 0, .bool true]] w (Ret (.int .i64 272) w) := retv (csaved_any 3 4 0 2 false true 5 3 true 1 0 0 0 0 0 0 0 0 0 0 0 0 0 true rfl (by unfold In64; omega) (by unfold In64; omega) w) (by kernel_rfl)
theorem kV2 (w : World) : Calls Try.prog 42 #[.agg #[.int .i64 3, .int .i64 4, .int .i64 0, .int .i64 2, .bool false], .agg #[.bool true, .int .i64 2, .int .i64 3, .bool true, .int .i64 1, .int .i64 0, .int .i64 0, .int .i64 0, .int .i64 0, .int .i64 0, .int .i64 0, .int .i64 0, .int .i64 0, .int .i64 0, .int .i64 0, .int .i64 0, .int .i64 0, .int .i64 0, .bool true]] w (Ret (.int .i64 0) w) := retv (csaved_any 3 4 0 2 false true 2 3 true 1 0 0 0 0 0 0 0 0 0 0 0 0 0 true rfl (by unfold In64; omega) (by unfold In64; omega) w) (by kernel_rfl)
theorem kV3 (w : World) : Calls Try.prog 42 #[.agg #[.int .i64 3, .int .i64 4, .int .i64 0, .int .i64 2, .bool false], .agg #[.bool false, .int .i64 0, .int .i64 0, .bool false, .int .i64 0, .int .i64 0, .int .i64 0, .int .i64 0, .int .i64 0, .int .i64 0, .int .i64 0, .int .i64 0, .int .i64 0, .int .i64 0, .int .i64 0, .int .i64 0, .int .i64 0, .int .i64 0, .bool false]] w (Ret (.int .i64 0) w) := retv (csaved_any 3 4 0 2 false false 0 0 false 0 0 0 0 0 0 0 0 0 0 0 0 0 0 false rfl (by unfold In64; omega) (by unfold In64; omega) w) (by kernel_rfl)
theorem kV4 (w : World) : Calls Try.prog 42 #[.agg #[.int .i64 3, .int .i64 4, .int .i64 0, .int .i64 2, .bool false], .agg #[.bool false, .int .i64 0, .int .i64 0, .bool false, .int .i64 0, .int .i64 0, .int .i64 0, .int .i64 0, .int .i64 0, .int .i64 0, .int .i64 0, .int .i64 0, .int .i64 0, .int .i64 0, .int .i64 0, .int .i64 0, .int .i64 0, .int .i64 0, .bool true]] w (Ret (.int .i64 272) w) := retv (csaved_any 3 4 0 2 false false 0 0 false 0 0 0 0 0 0 0 0 0 0 0 0 0 0 true rfl (by unfold In64; omega) (by unfold In64; omega) w) (by kernel_rfl)
theorem kI (w : World) : Calls Try.prog 20 #[.agg #[.int .i64 1, .int .i64 2, .int .i64 0, .int .i64 0, .bool false], .agg #[.int .i64 0, .int .i64 1, .bool false]] w (Ret (.tuple #[.agg #[.int .i64 0, .int .i64 1, .bool false], .bool true, .int .i64 0]) w) := retv (index_any 1 2 0 0 0 1 false false w) (by kernel_rfl)
theorem kR (w : World) : Calls Try.prog 21 #[.agg #[.int .i64 1, .int .i64 2, .int .i64 0, .int .i64 0, .bool false], .agg #[.int .i64 0, .int .i64 1, .bool false]] w (Ret (.tuple #[.agg #[.int .i64 0, .int .i64 1, .bool false], .bool true, .int .i64 0]) w) := retv (reverse_any 1 2 0 0 0 1 false false w) (by kernel_rfl)
theorem kEq (w : World) : (Op.equalIn 10000 80 (.agg #[.bool false, .int .i64 0, .int .i64 0, .bool false, .int .i64 0, .int .i64 0, .int .i64 0, .int .i64 0, .int .i64 0, .int .i64 0, .int .i64 0, .int .i64 0, .int .i64 0, .int .i64 0, .int .i64 0, .int .i64 0, .int .i64 0, .int .i64 0, .bool false]) (.agg #[.bool false, .int .i64 0, .int .i64 0, .bool false, .int .i64 0, .int .i64 0, .int .i64 0, .int .i64 0, .int .i64 0, .int .i64 0, .int .i64 0, .int .i64 0, .int .i64 0, .int .i64 0, .int .i64 0, .int .i64 0, .int .i64 0, .int .i64 0, .bool false])).run Try.prog w = .ok true w := (sav_eq w 0 0 0 0 0 0 0 0 0 0 0 0 0 0 0 0 0 0 0 0 0 0 0 0 0 0 0 0 0 0 0 0 false false false false false false).trans (by kernel_rfl)
theorem kN1 (w : World) : Calls Try.prog 23 #[.int .i64 1, .int .i64 1, .int .i64 1] w (fun e w' => e = .returned (.tuple #[.int .i64 0, .int .i64 0, .bool false]) ∧ w = w') := (margins_any 1 1 1 (by unfold In64; omega) (by unfold In64; omega) (by unfold In64; omega) w).mono fun e w' ⟨h, h2⟩ => ⟨h.trans (congrArg Ending.returned (by kernel_rfl)), h2⟩
theorem kN2 (w : World) : Calls Try.prog 23 #[.int .i64 10, .int .i64 (-1), .int .i64 5] w (fun e w' => e = .returned (.tuple #[.int .i64 0, .int .i64 0, .bool false]) ∧ w = w') := (margins_any 10 (-1) 5 (by unfold In64; omega) (by unfold In64; omega) (by unfold In64; omega) w).mono fun e w' ⟨h, h2⟩ => ⟨h.trans (congrArg Ending.returned (by kernel_rfl)), h2⟩
theorem kx0 (w : World) : (Instr.index 92 (.agg #[.int .i64 3, .int .i64 0, .bool false, .int .i64 0, .int .i64 4, .bool false, .int .i64 (-1), .int .i64 0, .bool false, .int .i64 0, .int .i64 (-1), .bool false, .int .i64 0, .int .i64 0, .bool true, .int .i64 0, .int .i64 2, .bool true]) (.int .i64 0)).run Try.prog w = .ok (.agg #[.int .i64 3, .int .i64 0, .bool false]) w := by kernel_rfl
theorem kx1 (w : World) : (Instr.index 92 (.agg #[.int .i64 3, .int .i64 0, .bool false, .int .i64 0, .int .i64 4, .bool false, .int .i64 (-1), .int .i64 0, .bool false, .int .i64 0, .int .i64 (-1), .bool false, .int .i64 0, .int .i64 0, .bool true, .int .i64 0, .int .i64 2, .bool true]) (.int .i64 1)).run Try.prog w = .ok (.agg #[.int .i64 0, .int .i64 4, .bool false]) w := by kernel_rfl
theorem kx2 (w : World) : (Instr.index 92 (.agg #[.int .i64 3, .int .i64 0, .bool false, .int .i64 0, .int .i64 4, .bool false, .int .i64 (-1), .int .i64 0, .bool false, .int .i64 0, .int .i64 (-1), .bool false, .int .i64 0, .int .i64 0, .bool true, .int .i64 0, .int .i64 2, .bool true]) (.int .i64 2)).run Try.prog w = .ok (.agg #[.int .i64 (-1), .int .i64 0, .bool false]) w := by kernel_rfl
theorem kx3 (w : World) : (Instr.index 92 (.agg #[.int .i64 3, .int .i64 0, .bool false, .int .i64 0, .int .i64 4, .bool false, .int .i64 (-1), .int .i64 0, .bool false, .int .i64 0, .int .i64 (-1), .bool false, .int .i64 0, .int .i64 0, .bool true, .int .i64 0, .int .i64 2, .bool true]) (.int .i64 3)).run Try.prog w = .ok (.agg #[.int .i64 0, .int .i64 (-1), .bool false]) w := by kernel_rfl
theorem kx4 (w : World) : (Instr.index 92 (.agg #[.int .i64 3, .int .i64 0, .bool false, .int .i64 0, .int .i64 4, .bool false, .int .i64 (-1), .int .i64 0, .bool false, .int .i64 0, .int .i64 (-1), .bool false, .int .i64 0, .int .i64 0, .bool true, .int .i64 0, .int .i64 2, .bool true]) (.int .i64 4)).run Try.prog w = .ok (.agg #[.int .i64 0, .int .i64 0, .bool true]) w := by kernel_rfl
theorem kx5 (w : World) : (Instr.index 92 (.agg #[.int .i64 3, .int .i64 0, .bool false, .int .i64 0, .int .i64 4, .bool false, .int .i64 (-1), .int .i64 0, .bool false, .int .i64 0, .int .i64 (-1), .bool false, .int .i64 0, .int .i64 0, .bool true, .int .i64 0, .int .i64 2, .bool true]) (.int .i64 5)).run Try.prog w = .ok (.agg #[.int .i64 0, .int .i64 2, .bool true]) w := by kernel_rfl
theorem kx (k : Nat) (hk : k < 6) : ∃ (x y : Int) (g : Bool), atB 3 4 x y g = false ∧ ∀ w, (Instr.index 92 (.agg #[.int .i64 3, .int .i64 0, .bool false, .int .i64 0, .int .i64 4, .bool false, .int .i64 (-1), .int .i64 0, .bool false, .int .i64 0, .int .i64 (-1), .bool false, .int .i64 0, .int .i64 0, .bool true, .int .i64 0, .int .i64 2, .bool true]) (.int .i64 k)).run Try.prog w = .ok (.agg #[.int .i64 x, .int .i64 y, .bool g]) w := by
  have h : k = 0 ∨ k = 1 ∨ k = 2 ∨ k = 3 ∨ k = 4 ∨ k = 5 := by omega
  rcases h with rfl | rfl | rfl | rfl | rfl | rfl
  · exact ⟨3, 0, false, rfl, kx0⟩
  · exact ⟨0, 4, false, rfl, kx1⟩
  · exact ⟨(-1), 0, false, rfl, kx2⟩
  · exact ⟨0, (-1), false, rfl, kx3⟩
  · exact ⟨0, 0, true, rfl, kx4⟩
  · exact ⟨0, 2, true, rfl, kx5⟩
theorem kMb (x y : Int) (g : Bool) (h : atB 3 4 x y g = false) (w : World) : Calls Try.prog 17 #[.agg #[.int .i64 3, .int .i64 4, .int .i64 0, .int .i64 2, .bool false], .agg #[.int .i64 x, .int .i64 y, .bool g], .int .i64 9, .int .i64 (-9)] w (Ret (.tuple #[.agg #[.int .i64 0, .int .i64 0, .bool false], .int .i64 271]) w) := by
  have h1 := move_err 3 4 0 2 x y 9 (-9) false g (by rw [h]; rfl) w
  rwa [h] at h1
theorem kCb (x y : Int) (g : Bool) (h : atB 3 4 x y g = false) (w : World) : Calls Try.prog 34 #[.agg #[.int .i64 3, .int .i64 4, .int .i64 0, .int .i64 2, .bool false], .agg #[.int .i64 x, .int .i64 y, .bool g]] w (Ret (.int .i64 271) w) := by
  have h1 := checkAt_any 3 4 0 2 x y false g w
  rwa [h] at h1
/-- A cursor to be read. -/
def CvAt (w : World) (B : Nat) (x y : Int) (wr : Bool) : Prop := B < w.heap.size ∧ w.cell? ⟨B, 0, none⟩ = some (.int .i64 x) ∧ w.cell? ⟨B, 1, none⟩ = some (.int .i64 y) ∧ w.cell? ⟨B, 2, none⟩ = some (.bool wr)
theorem CvAt.grows {w w' : World} {B : Nat} {x y : Int} {g : Bool} (h : CvAt w B x y g) (gr : Grows w w') : CvAt w' B x y g := by
  obtain ⟨p, d, rfl⟩ := gr
  obtain ⟨h0, h1, h2, h3⟩ := h
  exact ⟨by rw [ext_size]; omega, by rw [ext_cell _ _ _ _ _ h0]; exact h1, by rw [ext_cell _ _ _ _ _ h0]; exact h2, by rw [ext_cell _ _ _ _ _ h0]; exact h3⟩
end Go.Proofs.Ytepbknpdhiaepaa
