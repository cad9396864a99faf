/-
  Walk: works.
-/
import Derived.Test.YtafokiobbceibaaRows
import Derived.Test.YtafokiobbceibaaLt
import Derived.Test.YtafokiobbceibaaDefs
import Derived.Test.YtafokiobbceibaaBits
import Derived.Test.YtafokiobbceibaaMaps
import Derived.Test.YtafokiobbceibaaW5
import Derived.Test.YtafokiobbceibaaW6
import Derived.Test.YtafokiobbceibaaW7
import Derived.Test.YtafokiobbceibaaRun
import Derived.Test.YtafokiobbceibaaW8
import Derived.Test.YtafokiobbceibaaW9
import Derived.Test.YtafokiobbceibaaW10
import Derived.Test.YtafokiobbceibaaW11
import Derived.WalkKit
import Derived.WalkSpells
import Derived.WalkLawsBesides
import Derived.Handy
import Derived.Laws.EntriesVeiled
import Derived.Lib.Hide
import Derived.Deep.Light
import Derived.Deep.LoopGhost
import Derived.BigGuardPart
import Derived.BigQuiet
import Derived.Deep.QuietTactic
import Derived.Deep.RegionHeld3
import Derived.Deep.DeepCutAuto
import Derived.Test.YtafokiobbceibaaReg
import Derived.Test.YtafokiobbceibaaReg3
import Derived.Test.YtafokiobbceibaaReg4
namespace Go.Proofs.Ytafokiobbceibaa
open Go.RowKit

theorem bad_0 (w : World) : Calls Try.prog 14 #[.agg #[.int .i64 39, .int .i64 1, .int .i64 3, .int .i64 0, .int .i64 0, .string ⟨#[]⟩]] w (Ret (.int .i64 141) w) := by
  have h := checkPen_any 39 1 3 0 0 ⟨#[]⟩ (by unfold In64; omega) w
  rw [show pnErr 39 1 3 0 0 ⟨#[]⟩ = 141 by kernel_rfl] at h
  exact h
theorem bad_1 (w : World) : Calls Try.prog 14 #[.agg #[.int .i64 39, .int .i64 2, .int .i64 1, .int .i64 0, .int .i64 0, .string ⟨#[]⟩]] w (Ret (.int .i64 141) w) := by
  have h := checkPen_any 39 2 1 0 0 ⟨#[]⟩ (by unfold In64; omega) w
  rw [show pnErr 39 2 1 0 0 ⟨#[]⟩ = 141 by kernel_rfl] at h
  exact h
theorem bad_2 (w : World) : Calls Try.prog 14 #[.agg #[.int .i64 39, .int .i64 3, .int .i64 6, .int .i64 0, .int .i64 0, .string ⟨#[]⟩]] w (Ret (.int .i64 141) w) := by
  have h := checkPen_any 39 3 6 0 0 ⟨#[]⟩ (by unfold In64; omega) w
  rw [show pnErr 39 3 6 0 0 ⟨#[]⟩ = 141 by kernel_rfl] at h
  exact h
theorem bad_3 (w : World) : Calls Try.prog 14 #[.agg #[.int .i64 39, .int .i64 4, .int .i64 0, .int .i64 1, .int .i64 256, .string ⟨#[]⟩]] w (Ret (.int .i64 141) w) := by
  have h := checkPen_any 39 4 0 1 256 ⟨#[]⟩ (by unfold In64; omega) w
  rw [show pnErr 39 4 0 1 256 ⟨#[]⟩ = 141 by kernel_rfl] at h
  exact h
theorem bad_4 (w : World) : Calls Try.prog 14 #[.agg #[.int .i64 39, .int .i64 1, .int .i64 1, .int .i64 0, .int .i64 0, .string ⟨#[120]⟩]] w (Ret (.int .i64 141) w) := by
  have h := checkPen_any 39 1 1 0 0 ⟨#[120]⟩ (by unfold In64; omega) w
  rw [show pnErr 39 1 1 0 0 ⟨#[120]⟩ = 141 by kernel_rfl] at h
  exact h
theorem seen16 (w : World) : Calls Try.prog 24 #[.agg #[.int .i64 16, .int .i64 0, .int .i64 1, .int .i64 1, .int .i64 1, .int .i64 2, .int .i64 0, .int .i64 0]] w (Ret (.tuple #[.agg #[.int .i64 1, .int .i64 2], .agg #[.int .i64 1, .int .i64 1]]) w) := by
  have h := seen_any 16 0 1 1 1 2 0 0 w
  rw [show seenV 16 1 1 1 2 = .tuple #[.agg #[.int .i64 1, .int .i64 2], .agg #[.int .i64 1, .int .i64 1]] by kernel_rfl] at h
  exact h
theorem seen48 (w : World) : Calls Try.prog 24 #[.agg #[.int .i64 48, .int .i64 0, .int .i64 1, .int .i64 1, .int .i64 1, .int .i64 2, .int .i64 0, .int .i64 0]] w (Ret (.tuple #[.agg #[.int .i64 1, .int .i64 1], .agg #[.int .i64 1, .int .i64 1]]) w) := by
  have h := seen_any 48 0 1 1 1 2 0 0 w
  rw [show seenV 48 1 1 1 2 = .tuple #[.agg #[.int .i64 1, .int .i64 1], .agg #[.int .i64 1, .int .i64 1]] by kernel_rfl] at h
  exact h
theorem idx69_0 (x0 x1 x2 x3 x4 x5 x6 x7 x8 x9 x10 x11 x12 x13 x14 x15 x16 x17 x18 x19 x20 x21 x22 x23 x24 x25 x26 x27 x28 x29 : Value) (w : World) : (Instr.index 69 (.agg #[x0, x1, x2, x3, x4, x5, x6, x7, x8, x9, x10, x11, x12, x13, x14, x15, x16, x17, x18, x19, x20, x21, x22, x23, x24, x25, x26, x27, x28, x29]) (.int .i64 0)).run Try.prog w = .ok (.agg #[x0, x1, x2, x3, x4, x5]) w := by kernel_rfl
theorem idx69_1 (x0 x1 x2 x3 x4 x5 x6 x7 x8 x9 x10 x11 x12 x13 x14 x15 x16 x17 x18 x19 x20 x21 x22 x23 x24 x25 x26 x27 x28 x29 : Value) (w : World) : (Instr.index 69 (.agg #[x0, x1, x2, x3, x4, x5, x6, x7, x8, x9, x10, x11, x12, x13, x14, x15, x16, x17, x18, x19, x20, x21, x22, x23, x24, x25, x26, x27, x28, x29]) (.int .i64 1)).run Try.prog w = .ok (.agg #[x6, x7, x8, x9, x10, x11]) w := by kernel_rfl
theorem idx69_2 (x0 x1 x2 x3 x4 x5 x6 x7 x8 x9 x10 x11 x12 x13 x14 x15 x16 x17 x18 x19 x20 x21 x22 x23 x24 x25 x26 x27 x28 x29 : Value) (w : World) : (Instr.index 69 (.agg #[x0, x1, x2, x3, x4, x5, x6, x7, x8, x9, x10, x11, x12, x13, x14, x15, x16, x17, x18, x19, x20, x21, x22, x23, x24, x25, x26, x27, x28, x29]) (.int .i64 2)).run Try.prog w = .ok (.agg #[x12, x13, x14, x15, x16, x17]) w := by kernel_rfl
theorem idx69_3 (x0 x1 x2 x3 x4 x5 x6 x7 x8 x9 x10 x11 x12 x13 x14 x15 x16 x17 x18 x19 x20 x21 x22 x23 x24 x25 x26 x27 x28 x29 : Value) (w : World) : (Instr.index 69 (.agg #[x0, x1, x2, x3, x4, x5, x6, x7, x8, x9, x10, x11, x12, x13, x14, x15, x16, x17, x18, x19, x20, x21, x22, x23, x24, x25, x26, x27, x28, x29]) (.int .i64 3)).run Try.prog w = .ok (.agg #[x18, x19, x20, x21, x22, x23]) w := by kernel_rfl
theorem idx69_4 (x0 x1 x2 x3 x4 x5 x6 x7 x8 x9 x10 x11 x12 x13 x14 x15 x16 x17 x18 x19 x20 x21 x22 x23 x24 x25 x26 x27 x28 x29 : Value) (w : World) : (Instr.index 69 (.agg #[x0, x1, x2, x3, x4, x5, x6, x7, x8, x9, x10, x11, x12, x13, x14, x15, x16, x17, x18, x19, x20, x21, x22, x23, x24, x25, x26, x27, x28, x29]) (.int .i64 4)).run Try.prog w = .ok (.agg #[x24, x25, x26, x27, x28, x29]) w := by kernel_rfl

def ColAt (w : World) (B : Nat) (k n : Int) : Prop := B < w.heap.size ∧ w.cell? ⟨B, 0, none⟩ = some (.int .i64 k) ∧ w.cell? ⟨B, 1, none⟩ = some (.int .i64 n)
set_option maxRecDepth 100000 in
set_option maxHeartbeats 20000000 in
theorem works_true (w : World) : Calls Try.prog 16 #[] w (Ret (.bool true) w) := by
  go_enter Try.func16, Try.ntmps16
  go_upto_region 4 with fail
  go_cut [5] (fun s5 wx => s5 = .bool true ∧ ColAt wx w.heap.size 1 1 ∧ ColAt wx (w.heap.size + 1) 1 2 ∧ Grows w wx)
  case first =>
    refine wp_region_held_drew (S := fun w' => w'.cell? ⟨w.heap.size + 1 + 1, 0, none⟩ = some (.int .i64 1) ∧ w'.cell? ⟨w.heap.size + 1 + 1, 1, none⟩ = some (.int .i64 3) ∧ w'.cell? ⟨w.heap.size + 1 + 1, 2, none⟩ = some (.int .i64 1) ∧ w'.cell? ⟨w.heap.size + 1 + 1, 3, none⟩ = some (.int .i64 1) ∧ w'.cell? ⟨w.heap.size + 1 + 1, 4, none⟩ = some (.int .i64 0) ∧ w'.cell? ⟨w.heap.size + 1 + 1, 5, none⟩ = some (.int .i64 0) ∧ w'.cell? ⟨w.heap.size + 1 + 1, 6, none⟩ = some (.int .i64 0) ∧ w'.cell? ⟨w.heap.size + 1 + 1, 7, none⟩ = some (.int .i64 0) ∧ w'.cell? ⟨w.heap.size + 1 + 1 + 1, 0, none⟩ = some (.int .i64 0) ∧ w'.cell? ⟨w.heap.size + 1 + 1 + 1, 1, none⟩ = some (.int .i64 3) ∧ w'.cell? ⟨w.heap.size + 1 + 1 + 1, 2, none⟩ = some (.int .i64 1) ∧ w'.cell? ⟨w.heap.size + 1 + 1 + 1, 3, none⟩ = some (.int .i64 1) ∧ w'.cell? ⟨w.heap.size + 1 + 1 + 1, 4, none⟩ = some (.int .i64 0) ∧ w'.cell? ⟨w.heap.size + 1 + 1 + 1, 5, none⟩ = some (.int .i64 0) ∧ w'.cell? ⟨w.heap.size + 1 + 1 + 1, 6, none⟩ = some (.int .i64 0) ∧ w'.cell? ⟨w.heap.size + 1 + 1 + 1, 7, none⟩ = some (.int .i64 0)) (by kernel_rfl) ?_ (fun hHeld => ?_)
    · (simp [go_sem])
    refine wpAnyH_take (i := 0) (v := ?v1_0) rfl (by kernel_rfl) (by kernel_rfl) (by kernel_rfl) (fun _ _ _ h => h) (Or.inl ⟨by kernel_rfl, ?y1_0⟩) (by assumption) ?r1_0
    case y1_0 => ((intro w hSw; (try dsimp only at hSw); go_simp); (try with_reducible rfl))
    try simp only [Act.put, List.getElem_toArray, List.getElem_cons_zero, List.setIfInBounds_toArray, List.set_cons_zero, List.set_cons_succ]
    refine wpAnyH_take (i := 1) (v := ?v2_1) rfl (by kernel_rfl) (by kernel_rfl) (by kernel_rfl) (fun _ _ _ h => h) (Or.inl ⟨by kernel_rfl, ?y2_1⟩) (by assumption) ?r2_1
    case y2_1 => ((intro w hSw; (try dsimp only at hSw); go_simp); (try with_reducible rfl))
    try simp only [Act.put, List.getElem_toArray, List.getElem_cons_succ, List.getElem_cons_zero, List.setIfInBounds_toArray, List.set_cons_zero, List.set_cons_succ]
    refine wpAnyH_ready (rs := [2]) (by kernel_rfl) (by simp) ?_
    refine AllReadyH.cons rfl (fun K hK => ?_) AllReadyH.nil
    simp only [List.getElem_toArray, List.getElem_cons_succ, List.getElem_cons_zero]
    go_simp
    (refine (pen_any _ _ _).mono ?_; rintro e w' ⟨rfl, h1, d1, rfl⟩)
    refine hK.out _ _ ?_ ?_
    · ((try dsimp only); simp [go_sem])
    clear hK K hHeld
    intro hHeld
    try simp only [Act.put, List.getElem_toArray, List.getElem_cons_succ, List.getElem_cons_zero, List.setIfInBounds_toArray, List.set_cons_zero, List.set_cons_succ]
    refine wpAnyH_ready (rs := [3]) (by kernel_rfl) (by simp) ?_
    refine AllReadyH.cons rfl (fun K hK => ?_) AllReadyH.nil
    simp only [List.getElem_toArray, List.getElem_cons_succ, List.getElem_cons_zero]
    go_simp
    (refine (pen_any _ _ _).mono ?_; rintro e w' ⟨rfl, h1, d1, rfl⟩)
    refine hK.out _ _ ?_ ?_
    · ((try dsimp only); simp [go_sem])
    clear hK K hHeld
    intro hHeld
    try simp only [Act.put, List.getElem_toArray, List.getElem_cons_succ, List.getElem_cons_zero, List.setIfInBounds_toArray, List.set_cons_zero, List.set_cons_succ]
    refine wpAnyH_ready (rs := [4]) (by kernel_rfl) (by simp) ?_
    refine AllReadyH.cons rfl (fun K hK => ?_) AllReadyH.nil
    simp only [List.getElem_toArray, List.getElem_cons_succ, List.getElem_cons_zero]
    go_simp
    (refine (fore_any _ _ _).mono ?_; rintro e w' ⟨rfl, h2, d2, rfl⟩)
    refine hK.out _ _ ?_ ?_
    · ((try dsimp only); simp [go_sem])
    clear hK K hHeld
    intro hHeld
    try simp only [Act.put, List.getElem_toArray, List.getElem_cons_succ, List.getElem_cons_zero, List.setIfInBounds_toArray, List.set_cons_zero, List.set_cons_succ]
    refine wpAnyH_ready (rs := [5]) (by kernel_rfl) (by simp) ?_
    refine AllReadyH.cons rfl (fun K hK => ?_) AllReadyH.nil
    simp only [List.getElem_toArray, List.getElem_cons_succ, List.getElem_cons_zero]
    go_simp
    skip
    refine hK.out _ _ ?_ ?_
    · ((try dsimp only); simp [go_sem])
    clear hK K hHeld
    intro hHeld
    try simp only [Act.put, List.getElem_toArray, List.getElem_cons_succ, List.getElem_cons_zero, List.setIfInBounds_toArray, List.set_cons_zero, List.set_cons_succ]
    refine wpAnyH_ready (rs := [6]) (by kernel_rfl) (by simp) ?_
    refine AllReadyH.cons rfl (fun K hK => ?_) AllReadyH.nil
    simp only [List.getElem_toArray, List.getElem_cons_succ, List.getElem_cons_zero]
    go_simp
    (refine (mk1 _ _ (by simp [go_sem]) (by simp [go_sem]) (by simp [go_sem]) (by simp [go_sem]) (by simp [go_sem]) (by simp [go_sem]) (by simp [go_sem]) (by simp [go_sem]) (by simp [go_sem]) (by simp [go_sem]) (by simp [go_sem]) (by simp [go_sem]) (by simp [go_sem]) (by simp [go_sem]) (by simp [go_sem]) (by simp [go_sem]) (by simp [go_sem]) (by simp [go_sem]) (by simp [go_sem])).mono ?_; rintro e w' ⟨rfl, h3, d3, rfl⟩)
    refine hK.out _ _ ?_ ?_
    · ((try dsimp only); simp [go_sem])
    clear hK K hHeld
    intro hHeld
    try simp only [Act.put, List.getElem_toArray, List.getElem_cons_succ, List.getElem_cons_zero, List.setIfInBounds_toArray, List.set_cons_zero, List.set_cons_succ]
    refine wpAnyH_take (i := 7) (v := ?v8_7) rfl (by kernel_rfl) (by kernel_rfl) (by kernel_rfl) (fun _ _ _ h => h) (Or.inl ⟨by kernel_rfl, ?y8_7⟩) (by assumption) ?r8_7
    case y8_7 => ((intro w hSw; (try dsimp only at hSw); go_simp); (try with_reducible rfl))
    try simp only [Act.put, List.getElem_toArray, List.getElem_cons_succ, List.getElem_cons_zero, List.setIfInBounds_toArray, List.set_cons_zero, List.set_cons_succ]
    refine wpAnyH_take (i := 8) (v := ?v9_8) rfl (by kernel_rfl) (by kernel_rfl) (by kernel_rfl) (fun _ _ _ h => h) (Or.inl ⟨by kernel_rfl, ?y9_8⟩) (by assumption) ?r9_8
    case y9_8 => ((intro w hSw; (try dsimp only at hSw); go_simp); (try with_reducible rfl))
    try simp only [Act.put, List.getElem_toArray, List.getElem_cons_succ, List.getElem_cons_zero, List.setIfInBounds_toArray, List.set_cons_zero, List.set_cons_succ]
    refine wpAnyH_take (i := 9) (v := ?v10_9) rfl (by kernel_rfl) (by kernel_rfl) (by kernel_rfl) (fun _ _ _ h => h) (Or.inl ⟨by kernel_rfl, ?y10_9⟩) (by assumption) ?r10_9
    case y10_9 => ((intro w hSw; (try dsimp only at hSw); go_simp); (try with_reducible rfl))
    try simp only [Act.put, List.getElem_toArray, List.getElem_cons_succ, List.getElem_cons_zero, List.setIfInBounds_toArray, List.set_cons_zero, List.set_cons_succ]
    refine wpAnyH_ready (rs := [10]) (by kernel_rfl) (by simp) ?_
    refine AllReadyH.cons rfl (fun K hK => ?_) AllReadyH.nil
    simp only [List.getElem_toArray, List.getElem_cons_succ, List.getElem_cons_zero]
    go_simp
    (refine (pen_any _ _ _).mono ?_; rintro e w' ⟨rfl, h1, d1, rfl⟩)
    refine hK.out _ _ ?_ ?_
    · ((try dsimp only); simp [go_sem])
    clear hK K hHeld
    intro hHeld
    try simp only [Act.put, List.getElem_toArray, List.getElem_cons_succ, List.getElem_cons_zero, List.setIfInBounds_toArray, List.set_cons_zero, List.set_cons_succ]
    refine wpAnyH_ready (rs := [11]) (by kernel_rfl) (by simp) ?_
    refine AllReadyH.cons rfl (fun K hK => ?_) AllReadyH.nil
    simp only [List.getElem_toArray, List.getElem_cons_succ, List.getElem_cons_zero]
    go_simp
    skip
    refine hK.out _ _ ?_ ?_
    · ((try dsimp only); simp [go_sem])
    clear hK K hHeld
    intro hHeld
    try simp only [Act.put, List.getElem_toArray, List.getElem_cons_succ, List.getElem_cons_zero, List.setIfInBounds_toArray, List.set_cons_zero, List.set_cons_succ]
    refine wpAnyH_ready (rs := [12]) (by kernel_rfl) (by simp) ?_
    refine AllReadyH.cons rfl (fun K hK => ?_) AllReadyH.nil
    simp only [List.getElem_toArray, List.getElem_cons_succ, List.getElem_cons_zero]
    go_simp
    (refine (mk2 _ _ (by simp [go_sem]) (by simp [go_sem]) (by simp [go_sem]) (by simp [go_sem]) (by simp [go_sem]) (by simp [go_sem]) (by simp [go_sem])).mono ?_; rintro e w' ⟨rfl, h3, d3, rfl⟩)
    refine hK.out _ _ ?_ ?_
    · ((try dsimp only); simp [go_sem])
    clear hK K hHeld
    intro hHeld
    try simp only [Act.put, List.getElem_toArray, List.getElem_cons_succ, List.getElem_cons_zero, List.setIfInBounds_toArray, List.set_cons_zero, List.set_cons_succ]
    refine wpAnyH_take (i := 13) (v := ?v14_13) rfl (by kernel_rfl) (by kernel_rfl) (by kernel_rfl) (fun _ _ _ h => h) (Or.inl ⟨by kernel_rfl, ?y14_13⟩) (by assumption) ?r14_13
    case y14_13 => ((intro w hSw; (try dsimp only at hSw); go_simp); (try with_reducible rfl))
    try simp only [Act.put, List.getElem_toArray, List.getElem_cons_succ, List.getElem_cons_zero, List.setIfInBounds_toArray, List.set_cons_zero, List.set_cons_succ]
    refine wpAnyH_take (i := 14) (v := ?v15_14) rfl (by kernel_rfl) (by kernel_rfl) (by kernel_rfl) (fun _ _ _ h => h) (Or.inl ⟨by kernel_rfl, ?y15_14⟩) (by assumption) ?r15_14
    case y15_14 => ((intro w hSw; (try dsimp only at hSw); go_simp); (try with_reducible rfl))
    try simp only [Act.put, List.getElem_toArray, List.getElem_cons_succ, List.getElem_cons_zero, List.setIfInBounds_toArray, List.set_cons_zero, List.set_cons_succ]
    refine wpAnyH_take (i := 15) (v := ?v16_15) rfl (by kernel_rfl) (by kernel_rfl) (by kernel_rfl) (fun _ _ _ h => h) (Or.inl ⟨by kernel_rfl, ?y16_15⟩) (by assumption) ?r16_15
    case y16_15 => ((intro w hSw; (try dsimp only at hSw); go_simp); (try with_reducible rfl))
    try simp only [Act.put, List.getElem_toArray, List.getElem_cons_succ, List.getElem_cons_zero, List.setIfInBounds_toArray, List.set_cons_zero, List.set_cons_succ]
    refine wpAnyH_take (i := 16) (v := ?v17_16) rfl (by kernel_rfl) (by kernel_rfl) (by kernel_rfl) (fun _ _ _ h => h) (Or.inl ⟨by kernel_rfl, ?y17_16⟩) (by assumption) ?r17_16
    case y17_16 => ((intro w hSw; (try dsimp only at hSw); go_simp); (try with_reducible rfl))
    try simp only [Act.put, List.getElem_toArray, List.getElem_cons_succ, List.getElem_cons_zero, List.setIfInBounds_toArray, List.set_cons_zero, List.set_cons_succ]
    refine wpAnyH_ready (rs := [17]) (by kernel_rfl) (by simp) ?_
    refine AllReadyH.cons rfl (fun K hK => ?_) AllReadyH.nil
    simp only [List.getElem_toArray, List.getElem_cons_succ, List.getElem_cons_zero]
    go_simp
    (refine (pen_any _ _ _).mono ?_; rintro e w' ⟨rfl, h1, d1, rfl⟩)
    refine hK.out _ _ ?_ ?_
    · ((try dsimp only); simp [go_sem])
    clear hK K hHeld
    intro hHeld
    try simp only [Act.put, List.getElem_toArray, List.getElem_cons_succ, List.getElem_cons_zero, List.setIfInBounds_toArray, List.set_cons_zero, List.set_cons_succ]
    refine wpAnyH_ready (rs := [18]) (by kernel_rfl) (by simp) ?_
    refine AllReadyH.cons rfl (fun K hK => ?_) AllReadyH.nil
    simp only [List.getElem_toArray, List.getElem_cons_succ, List.getElem_cons_zero]
    go_simp
    skip
    refine hK.out _ _ ?_ ?_
    · ((try dsimp only); simp [go_sem])
    clear hK K hHeld
    intro hHeld
    try simp only [Act.put, List.getElem_toArray, List.getElem_cons_succ, List.getElem_cons_zero, List.setIfInBounds_toArray, List.set_cons_zero, List.set_cons_succ]
    refine wpAnyH_ready (rs := [19]) (by kernel_rfl) (by simp) ?_
    refine AllReadyH.cons rfl (fun K hK => ?_) AllReadyH.nil
    simp only [List.getElem_toArray, List.getElem_cons_succ, List.getElem_cons_zero]
    go_simp
    (refine (mk3 _ _ (by simp [go_sem]) (by simp [go_sem]) (by simp [go_sem]) (by simp [go_sem]) (by simp [go_sem]) (by simp [go_sem]) (by simp [go_sem])).mono ?_; rintro e w' ⟨rfl, h3, d3, rfl⟩)
    refine hK.out _ _ ?_ ?_
    · ((try dsimp only); simp [go_sem])
    clear hK K hHeld
    intro hHeld
    try simp only [Act.put, List.getElem_toArray, List.getElem_cons_succ, List.getElem_cons_zero, List.setIfInBounds_toArray, List.set_cons_zero, List.set_cons_succ]
    refine wpAnyH_take (i := 20) (v := ?v21_20) rfl (by kernel_rfl) (by kernel_rfl) (by kernel_rfl) (fun _ _ _ h => h) (Or.inl ⟨by kernel_rfl, ?y21_20⟩) (by assumption) ?r21_20
    case y21_20 => ((intro w hSw; (try dsimp only at hSw); go_simp); (try with_reducible rfl))
    try simp only [Act.put, List.getElem_toArray, List.getElem_cons_succ, List.getElem_cons_zero, List.setIfInBounds_toArray, List.set_cons_zero, List.set_cons_succ]
    refine wpAnyH_take (i := 21) (v := ?v22_21) rfl (by kernel_rfl) (by kernel_rfl) (by kernel_rfl) (fun _ _ _ h => h) (Or.inl ⟨by kernel_rfl, ?y22_21⟩) (by assumption) ?r22_21
    case y22_21 => ((intro w hSw; (try dsimp only at hSw); go_simp); (try with_reducible rfl))
    try simp only [Act.put, List.getElem_toArray, List.getElem_cons_succ, List.getElem_cons_zero, List.setIfInBounds_toArray, List.set_cons_zero, List.set_cons_succ]
    refine wpAnyH_done (by kernel_rfl) ?_ _
    clear hHeld
    go_wp2_with fail
    go_meet
    exact ⟨rfl, ⟨by simp [go_sem], by simp [go_sem], by simp [go_sem]⟩, ⟨by simp [go_sem], by simp [go_sem], by simp [go_sem]⟩, (by repeat' (first | (with_reducible exact Grows.refl _) | (with_reducible refine Grows.alloc ?_ _) | (with_reducible refine Grows.drew ?_) | (with_reducible refine Grows.ext ?_ _ _)))⟩
  case rest =>
    obtain ⟨rfl, ⟨k0, k1, k2⟩, ⟨q0, q1, q2⟩, hG⟩ := hcut
    have hB : w.heap.size ≠ w.heap.size + 1 := by omega
    generalize w.heap.size + 1 = B2 at *
    generalize w.heap.size = B1 at *
    clear hB
    have ix0 := idx69_0
    have ix1 := idx69_1
    have ix2 := idx69_2
    have ix3 := idx69_3
    have ix4 := idx69_4
    go_wp2_with (go_at_call 21; (with_reducible refine (pen_any _ _ _).mono ?_); rintro e w' ⟨rfl, h4, d4, rfl⟩)
    refine wp_region_grow (by kernel_rfl) (by kernel_rfl) ?_
    repeat (first | go_big_quiet_step ((first | (rename_i xg; go_at_call 21; (with_reducible refine (pen_any _ _ _).mono ?_); rintro _ _ ⟨rfl, h0, d0, rfl⟩; exact ⟨rfl, Gr.mk (xg.h ++ h0) d0, by simp only [ext_ext, Gr.h_mk, Gr.d_mk]⟩) | (rename_i xg; go_at_call 23; (with_reducible refine (fore_any _ _ _).mono ?_); rintro _ _ ⟨rfl, h0, d0, rfl⟩; exact ⟨rfl, Gr.mk (xg.h ++ h0) d0, by simp only [ext_ext, Gr.h_mk, Gr.d_mk]⟩))) | quiet_step ((first | (rename_i xg; go_at_call 21; (with_reducible refine (pen_any _ _ _).mono ?_); rintro _ _ ⟨rfl, h0, d0, rfl⟩; exact ⟨rfl, Gr.mk (xg.h ++ h0) d0, by simp only [ext_ext, Gr.h_mk, Gr.d_mk, Array.append_assoc]⟩) | (rename_i xg; go_at_call 23; (with_reducible refine (fore_any _ _ _).mono ?_); rintro _ _ ⟨rfl, h0, d0, rfl⟩; exact ⟨rfl, Gr.mk (xg.h ++ h0) d0, by simp only [ext_ext, Gr.h_mk, Gr.d_mk, Array.append_assoc]⟩))))
    refine wpQuiet_nil ?_
    rintro _ ⟨g28, rfl⟩
    go_wp2_with fail
    refine wp_loop_rounds 6 ?_
    repeat (rw [rounds_succ]; go_wp2_with (first | (go_at_call 14; (with_reducible refine (bad_0 _).mono ?_); rintro e w' ⟨rfl, h10, d10, rfl⟩) | (go_at_call 14; (with_reducible refine (bad_1 _).mono ?_); rintro e w' ⟨rfl, h11, d11, rfl⟩) | (go_at_call 14; (with_reducible refine (bad_2 _).mono ?_); rintro e w' ⟨rfl, h12, d12, rfl⟩) | (go_at_call 14; (with_reducible refine (bad_3 _).mono ?_); rintro e w' ⟨rfl, h13, d13, rfl⟩) | (go_at_call 14; (with_reducible refine (bad_4 _).mono ?_); rintro e w' ⟨rfl, h14, d14, rfl⟩) | (go_at_call 24; (with_reducible refine (seen16 _).mono ?_); rintro e w' ⟨rfl, h20, d20, rfl⟩) | (go_at_call 24; (with_reducible refine (seen48 _).mono ?_); rintro e w' ⟨rfl, h21, d21, rfl⟩)))
    go_returns
    exact ⟨rfl, (by repeat' (first | (with_reducible exact hG) | (with_reducible exact Grows.refl _) | (with_reducible refine Grows.alloc ?_ _) | (with_reducible refine Grows.drew ?_) | (with_reducible refine Grows.ext ?_ _ _)))⟩
end Go.Proofs.Ytafokiobbceibaa
