/-
  Walks: what the pens make of a style.
-/
import Derived.Test.YtafokiobbceibaaRows
import Derived.Test.YtafokiobbceibaaLt
import Derived.Test.YtafokiobbceibaaDefs
import Derived.Test.YtafokiobbceibaaBits
import Derived.Test.YtafokiobbceibaaMaps
import Derived.Test.YtafokiobbceibaaW3
import Derived.Test.YtafokiobbceibaaW5
import Derived.WalkKit
import Derived.WalkSpells
import Derived.WalkLawsBesides
import Derived.Handy
import Derived.Laws.EntriesVeiled
import Derived.Lib.Hide
import Derived.Deep.Light
import Derived.Deep.LoopGhost
import Derived.BigGuardPart
import Derived.BigQuiet
import Derived.Deep.QuietTactic
import Derived.Deep.RegionHeld3
import Derived.Test.YtafokiobbceibaaReg
import Derived.Test.YtafokiobbceibaaReg3
import Derived.Test.YtafokiobbceibaaReg4
namespace Go.Proofs.Ytafokiobbceibaa
open Go.RowKit


def StyAt (w : World) (B : Nat) (a u fk fn bk bn lk ln : Int) : Prop := B < w.heap.size ∧ w.cell? ⟨B, 0, none⟩ = some (.int .i64 a) ∧ w.cell? ⟨B, 1, none⟩ = some (.int .i64 u) ∧ w.cell? ⟨B, 2, none⟩ = some (.int .i64 fk) ∧ w.cell? ⟨B, 3, none⟩ = some (.int .i64 fn) ∧ w.cell? ⟨B, 4, none⟩ = some (.int .i64 bk) ∧ w.cell? ⟨B, 5, none⟩ = some (.int .i64 bn) ∧ w.cell? ⟨B, 6, none⟩ = some (.int .i64 lk) ∧ w.cell? ⟨B, 7, none⟩ = some (.int .i64 ln) ∧ w.frozen? ⟨B, 0, none⟩ = false ∧ w.frozen? ⟨B, 1, none⟩ = false ∧ w.frozen? ⟨B, 2, none⟩ = false ∧ w.frozen? ⟨B, 3, none⟩ = false ∧ w.frozen? ⟨B, 4, none⟩ = false ∧ w.frozen? ⟨B, 5, none⟩ = false ∧ w.frozen? ⟨B, 6, none⟩ = false ∧ w.frozen? ⟨B, 7, none⟩ = false
theorem StyAt.grows {w w' : World} {B : Nat} {a u fk fn bk bn lk ln : Int} (h : StyAt w B a u fk fn bk bn lk ln) (g : Grows w w') : StyAt w' B a u fk fn bk bn lk ln := by
  obtain ⟨x, d, rfl⟩ := g
  obtain ⟨h0, c0, c1, c2, c3, c4, c5, c6, c7, f0, f1, f2, f3, f4, f5, f6, f7⟩ := h
  refine ⟨by rw [ext_size]; omega, ?_, ?_, ?_, ?_, ?_, ?_, ?_, ?_, ?_, ?_, ?_, ?_, ?_, ?_, ?_, ?_⟩
  all_goals first | (rw [ext_cell _ _ _ _ _ h0]; assumption) | (rw [ext_frozen _ _ _ _ _ h0]; assumption)

theorem Grows.setIn {w w' : World} (g : Grows w w') {n i : Nat} (hn : n < w.heap.size) (v : Value) : Grows (w.setCell ⟨n, i, none⟩ v) (w'.setCell ⟨n, i, none⟩ v) := by
  obtain ⟨h, d, rfl⟩ := g
  exact ⟨h, d, ext_setCell _ _ _ _ _ _ hn⟩

set_option maxHeartbeats 4000000 in
theorem make_reset (B : Nat) (a u fk fn bk bn lk ln kd n m ck cn : Int) (s : ByteArray) (w : World) (hB : StyAt w B a u fk fn bk bn lk ln) : Calls Try.prog 38 #[.pointer (some ⟨B, 0, none⟩), .agg #[.int .i64 kd, .int .i64 n, .int .i64 m, .int .i64 ck, .int .i64 cn, .string s]] w (fun e w' => e = .returned (.tuple #[]) ∧ Grows (((((((((w).setCell ⟨B, 0, none⟩ (.int .i64 (0))).setCell ⟨B, 1, none⟩ (.int .i64 (0))).setCell ⟨B, 2, none⟩ (.int .i64 (0))).setCell ⟨B, 3, none⟩ (.int .i64 (0))).setCell ⟨B, 4, none⟩ (.int .i64 (0))).setCell ⟨B, 5, none⟩ (.int .i64 (0))).setCell ⟨B, 6, none⟩ (.int .i64 (0))).setCell ⟨B, 7, none⟩ (.int .i64 (0))) w') := by
  obtain ⟨k0, c0, c1, c2, c3, c4, c5, c6, c7, f0, f1, f2, f3, f4, f5, f6, f7⟩ := hB
  go_enter Try.func38, Try.ntmps38
  go_wp2_with fail
  go_returns
  refine ⟨rfl, ?_⟩
  first | exact (by repeat' (first | (with_reducible exact Grows.refl _) | (with_reducible refine Grows.alloc ?_ _) | (with_reducible refine Grows.drew ?_) | (with_reducible refine Grows.ext ?_ _ _))) | (refine Grows.setIn ?_ k0 _; exact (by repeat' (first | (with_reducible exact Grows.refl _) | (with_reducible refine Grows.alloc ?_ _) | (with_reducible refine Grows.drew ?_) | (with_reducible refine Grows.ext ?_ _ _)))) | (refine Grows.setIn (Grows.setIn ?_ k0 _) (by simp [go_sem]; omega) _; exact (by repeat' (first | (with_reducible exact Grows.refl _) | (with_reducible refine Grows.alloc ?_ _) | (with_reducible refine Grows.drew ?_) | (with_reducible refine Grows.ext ?_ _ _))))

set_option maxHeartbeats 4000000 in
theorem make_set (B : Nat) (a u fk fn bk bn lk ln kd n m ck cn : Int) (s : ByteArray) (w : World) (hB : StyAt w B a u fk fn bk bn lk ln) : Calls Try.prog 40 #[.pointer (some ⟨B, 0, none⟩), .agg #[.int .i64 kd, .int .i64 n, .int .i64 m, .int .i64 ck, .int .i64 cn, .string s]] w (fun e w' => e = .returned (.tuple #[]) ∧ Grows ((w).setCell ⟨B, 0, none⟩ (.int .i64 (bits .or .i64 a m))) w') := by
  obtain ⟨k0, c0, c1, c2, c3, c4, c5, c6, c7, f0, f1, f2, f3, f4, f5, f6, f7⟩ := hB
  go_enter Try.func40, Try.ntmps40
  go_wp2_with fail
  refine wp_region_grow_tail 9 (by kernel_rfl) (by kernel_rfl) ?_
  simp only [List.take_succ_cons, List.take_zero, List.drop_succ_cons, List.drop_zero]
  repeat (first | go_big_quiet_step ((fail)) | quiet_step ((fail)))
  refine wpQuiet_nil ?_
  rintro _ ⟨g23, rfl⟩
  go_wp2
  go_returns
  refine ⟨rfl, ?_⟩
  first | exact (by repeat' (first | (with_reducible exact Grows.refl _) | (with_reducible refine Grows.alloc ?_ _) | (with_reducible refine Grows.drew ?_) | (with_reducible refine Grows.ext ?_ _ _))) | (refine Grows.setIn ?_ k0 _; exact (by repeat' (first | (with_reducible exact Grows.refl _) | (with_reducible refine Grows.alloc ?_ _) | (with_reducible refine Grows.drew ?_) | (with_reducible refine Grows.ext ?_ _ _)))) | (refine Grows.setIn (Grows.setIn ?_ k0 _) (by simp [go_sem]; omega) _; exact (by repeat' (first | (with_reducible exact Grows.refl _) | (with_reducible refine Grows.alloc ?_ _) | (with_reducible refine Grows.drew ?_) | (with_reducible refine Grows.ext ?_ _ _))))

set_option maxHeartbeats 4000000 in
theorem make_clear (B : Nat) (a u fk fn bk bn lk ln kd n m ck cn : Int) (s : ByteArray) (w : World) (hB : StyAt w B a u fk fn bk bn lk ln) : Calls Try.prog 42 #[.pointer (some ⟨B, 0, none⟩), .agg #[.int .i64 kd, .int .i64 n, .int .i64 m, .int .i64 ck, .int .i64 cn, .string s]] w (fun e w' => e = .returned (.tuple #[]) ∧ Grows ((w).setCell ⟨B, 0, none⟩ (.int .i64 (bits .andNot .i64 a m))) w') := by
  obtain ⟨k0, c0, c1, c2, c3, c4, c5, c6, c7, f0, f1, f2, f3, f4, f5, f6, f7⟩ := hB
  go_enter Try.func42, Try.ntmps42
  go_wp2_with fail
  refine wp_region_grow_tail 9 (by kernel_rfl) (by kernel_rfl) ?_
  simp only [List.take_succ_cons, List.take_zero, List.drop_succ_cons, List.drop_zero]
  repeat (first | go_big_quiet_step ((fail)) | quiet_step ((fail)))
  refine wpQuiet_nil ?_
  rintro _ ⟨g24, rfl⟩
  go_wp2
  go_returns
  refine ⟨rfl, ?_⟩
  first | exact (by repeat' (first | (with_reducible exact Grows.refl _) | (with_reducible refine Grows.alloc ?_ _) | (with_reducible refine Grows.drew ?_) | (with_reducible refine Grows.ext ?_ _ _))) | (refine Grows.setIn ?_ k0 _; exact (by repeat' (first | (with_reducible exact Grows.refl _) | (with_reducible refine Grows.alloc ?_ _) | (with_reducible refine Grows.drew ?_) | (with_reducible refine Grows.ext ?_ _ _)))) | (refine Grows.setIn (Grows.setIn ?_ k0 _) (by simp [go_sem]; omega) _; exact (by repeat' (first | (with_reducible exact Grows.refl _) | (with_reducible refine Grows.alloc ?_ _) | (with_reducible refine Grows.drew ?_) | (with_reducible refine Grows.ext ?_ _ _))))

set_option maxHeartbeats 4000000 in
theorem make_under (B : Nat) (a u fk fn bk bn lk ln kd n m ck cn : Int) (s : ByteArray) (w : World) (hB : StyAt w B a u fk fn bk bn lk ln) : Calls Try.prog 44 #[.pointer (some ⟨B, 0, none⟩), .agg #[.int .i64 kd, .int .i64 n, .int .i64 m, .int .i64 ck, .int .i64 cn, .string s]] w (fun e w' => e = .returned (.tuple #[]) ∧ Grows ((w).setCell ⟨B, 1, none⟩ (.int .i64 (m))) w') := by
  obtain ⟨k0, c0, c1, c2, c3, c4, c5, c6, c7, f0, f1, f2, f3, f4, f5, f6, f7⟩ := hB
  go_enter Try.func44, Try.ntmps44
  go_wp2_with fail
  go_returns
  refine ⟨rfl, ?_⟩
  first | exact (by repeat' (first | (with_reducible exact Grows.refl _) | (with_reducible refine Grows.alloc ?_ _) | (with_reducible refine Grows.drew ?_) | (with_reducible refine Grows.ext ?_ _ _))) | (refine Grows.setIn ?_ k0 _; exact (by repeat' (first | (with_reducible exact Grows.refl _) | (with_reducible refine Grows.alloc ?_ _) | (with_reducible refine Grows.drew ?_) | (with_reducible refine Grows.ext ?_ _ _)))) | (refine Grows.setIn (Grows.setIn ?_ k0 _) (by simp [go_sem]; omega) _; exact (by repeat' (first | (with_reducible exact Grows.refl _) | (with_reducible refine Grows.alloc ?_ _) | (with_reducible refine Grows.drew ?_) | (with_reducible refine Grows.ext ?_ _ _))))

theorem part_0 (B : Nat) (w : World) : Calls Try.prog 45 #[.pointer (some ⟨B, 0, none⟩)] w (Ret (.pointer (some ⟨B, 2, none⟩)) w) := by
  go_enter Try.func45, Try.ntmps45
  go_wp2
  go_returns
  exact ⟨rfl, (by repeat' (first | (with_reducible exact Grows.refl _) | (with_reducible refine Grows.alloc ?_ _) | (with_reducible refine Grows.drew ?_) | (with_reducible refine Grows.ext ?_ _ _)))⟩

set_option maxHeartbeats 4000000 in
theorem make_col0 (B : Nat) (a u fk fn bk bn lk ln kd n m ck cn : Int) (s : ByteArray) (w : World) (hB : StyAt w B a u fk fn bk bn lk ln) (C : Nat) (hC : FnAt w C 45) : Calls Try.prog 37 #[.pointer (some ⟨B, 0, none⟩), .agg #[.int .i64 kd, .int .i64 n, .int .i64 m, .int .i64 ck, .int .i64 cn, .string s], .pointer (some ⟨C, 0, none⟩)] w (fun e w' => e = .returned (.tuple #[]) ∧ Grows (((w).setCell ⟨B, 2, none⟩ (.int .i64 (ck))).setCell ⟨B, 3, none⟩ (.int .i64 (cn))) w') := by
  obtain ⟨k0, c0, c1, c2, c3, c4, c5, c6, c7, f0, f1, f2, f3, f4, f5, f6, f7⟩ := hB
  obtain ⟨j0, j1⟩ := hC
  go_enter Try.func37, Try.ntmps37
  go_wp2_with fail
  refine wp_region_grow_tail 6 (by kernel_rfl) (by kernel_rfl) ?_
  simp only [List.take_succ_cons, List.take_zero, List.drop_succ_cons, List.drop_zero]
  repeat (first | go_big_quiet_step ((first | (rename_i xg; go_at_call 45; (with_reducible refine (part_0 _ _).mono ?_); rintro _ _ ⟨rfl, h0, d0, rfl⟩; exact ⟨rfl, Gr.mk (xg.h ++ h0) d0, by simp only [ext_ext, Gr.h_mk, Gr.d_mk]⟩))) | quiet_step ((first | (rename_i xg; go_at_call 45; (with_reducible refine (part_0 _ _).mono ?_); rintro _ _ ⟨rfl, h0, d0, rfl⟩; exact ⟨rfl, Gr.mk (xg.h ++ h0) d0, by simp only [ext_ext, Gr.h_mk, Gr.d_mk, Array.append_assoc]⟩))))
  refine wpQuiet_nil ?_
  rintro _ ⟨g25, rfl⟩
  go_wp2
  go_returns
  refine ⟨rfl, ?_⟩
  first | exact (by repeat' (first | (with_reducible exact Grows.refl _) | (with_reducible refine Grows.alloc ?_ _) | (with_reducible refine Grows.drew ?_) | (with_reducible refine Grows.ext ?_ _ _))) | (refine Grows.setIn ?_ k0 _; exact (by repeat' (first | (with_reducible exact Grows.refl _) | (with_reducible refine Grows.alloc ?_ _) | (with_reducible refine Grows.drew ?_) | (with_reducible refine Grows.ext ?_ _ _)))) | (refine Grows.setIn (Grows.setIn ?_ k0 _) (by simp [go_sem]; omega) _; exact (by repeat' (first | (with_reducible exact Grows.refl _) | (with_reducible refine Grows.alloc ?_ _) | (with_reducible refine Grows.drew ?_) | (with_reducible refine Grows.ext ?_ _ _))))

theorem part_1 (B : Nat) (w : World) : Calls Try.prog 46 #[.pointer (some ⟨B, 0, none⟩)] w (Ret (.pointer (some ⟨B, 4, none⟩)) w) := by
  go_enter Try.func46, Try.ntmps46
  go_wp2
  go_returns
  exact ⟨rfl, (by repeat' (first | (with_reducible exact Grows.refl _) | (with_reducible refine Grows.alloc ?_ _) | (with_reducible refine Grows.drew ?_) | (with_reducible refine Grows.ext ?_ _ _)))⟩

set_option maxHeartbeats 4000000 in
theorem make_col1 (B : Nat) (a u fk fn bk bn lk ln kd n m ck cn : Int) (s : ByteArray) (w : World) (hB : StyAt w B a u fk fn bk bn lk ln) (C : Nat) (hC : FnAt w C 46) : Calls Try.prog 37 #[.pointer (some ⟨B, 0, none⟩), .agg #[.int .i64 kd, .int .i64 n, .int .i64 m, .int .i64 ck, .int .i64 cn, .string s], .pointer (some ⟨C, 0, none⟩)] w (fun e w' => e = .returned (.tuple #[]) ∧ Grows (((w).setCell ⟨B, 4, none⟩ (.int .i64 (ck))).setCell ⟨B, 5, none⟩ (.int .i64 (cn))) w') := by
  obtain ⟨k0, c0, c1, c2, c3, c4, c5, c6, c7, f0, f1, f2, f3, f4, f5, f6, f7⟩ := hB
  obtain ⟨j0, j1⟩ := hC
  go_enter Try.func37, Try.ntmps37
  go_wp2_with fail
  refine wp_region_grow_tail 6 (by kernel_rfl) (by kernel_rfl) ?_
  simp only [List.take_succ_cons, List.take_zero, List.drop_succ_cons, List.drop_zero]
  repeat (first | go_big_quiet_step ((first | (rename_i xg; go_at_call 46; (with_reducible refine (part_1 _ _).mono ?_); rintro _ _ ⟨rfl, h0, d0, rfl⟩; exact ⟨rfl, Gr.mk (xg.h ++ h0) d0, by simp only [ext_ext, Gr.h_mk, Gr.d_mk]⟩))) | quiet_step ((first | (rename_i xg; go_at_call 46; (with_reducible refine (part_1 _ _).mono ?_); rintro _ _ ⟨rfl, h0, d0, rfl⟩; exact ⟨rfl, Gr.mk (xg.h ++ h0) d0, by simp only [ext_ext, Gr.h_mk, Gr.d_mk, Array.append_assoc]⟩))))
  refine wpQuiet_nil ?_
  rintro _ ⟨g26, rfl⟩
  go_wp2
  go_returns
  refine ⟨rfl, ?_⟩
  first | exact (by repeat' (first | (with_reducible exact Grows.refl _) | (with_reducible refine Grows.alloc ?_ _) | (with_reducible refine Grows.drew ?_) | (with_reducible refine Grows.ext ?_ _ _))) | (refine Grows.setIn ?_ k0 _; exact (by repeat' (first | (with_reducible exact Grows.refl _) | (with_reducible refine Grows.alloc ?_ _) | (with_reducible refine Grows.drew ?_) | (with_reducible refine Grows.ext ?_ _ _)))) | (refine Grows.setIn (Grows.setIn ?_ k0 _) (by simp [go_sem]; omega) _; exact (by repeat' (first | (with_reducible exact Grows.refl _) | (with_reducible refine Grows.alloc ?_ _) | (with_reducible refine Grows.drew ?_) | (with_reducible refine Grows.ext ?_ _ _))))

theorem part_2 (B : Nat) (w : World) : Calls Try.prog 47 #[.pointer (some ⟨B, 0, none⟩)] w (Ret (.pointer (some ⟨B, 6, none⟩)) w) := by
  go_enter Try.func47, Try.ntmps47
  go_wp2
  go_returns
  exact ⟨rfl, (by repeat' (first | (with_reducible exact Grows.refl _) | (with_reducible refine Grows.alloc ?_ _) | (with_reducible refine Grows.drew ?_) | (with_reducible refine Grows.ext ?_ _ _)))⟩

set_option maxHeartbeats 4000000 in
theorem make_col2 (B : Nat) (a u fk fn bk bn lk ln kd n m ck cn : Int) (s : ByteArray) (w : World) (hB : StyAt w B a u fk fn bk bn lk ln) (C : Nat) (hC : FnAt w C 47) : Calls Try.prog 37 #[.pointer (some ⟨B, 0, none⟩), .agg #[.int .i64 kd, .int .i64 n, .int .i64 m, .int .i64 ck, .int .i64 cn, .string s], .pointer (some ⟨C, 0, none⟩)] w (fun e w' => e = .returned (.tuple #[]) ∧ Grows (((w).setCell ⟨B, 6, none⟩ (.int .i64 (ck))).setCell ⟨B, 7, none⟩ (.int .i64 (cn))) w') := by
  obtain ⟨k0, c0, c1, c2, c3, c4, c5, c6, c7, f0, f1, f2, f3, f4, f5, f6, f7⟩ := hB
  obtain ⟨j0, j1⟩ := hC
  go_enter Try.func37, Try.ntmps37
  go_wp2_with fail
  refine wp_region_grow_tail 6 (by kernel_rfl) (by kernel_rfl) ?_
  simp only [List.take_succ_cons, List.take_zero, List.drop_succ_cons, List.drop_zero]
  repeat (first | go_big_quiet_step ((first | (rename_i xg; go_at_call 47; (with_reducible refine (part_2 _ _).mono ?_); rintro _ _ ⟨rfl, h0, d0, rfl⟩; exact ⟨rfl, Gr.mk (xg.h ++ h0) d0, by simp only [ext_ext, Gr.h_mk, Gr.d_mk]⟩))) | quiet_step ((first | (rename_i xg; go_at_call 47; (with_reducible refine (part_2 _ _).mono ?_); rintro _ _ ⟨rfl, h0, d0, rfl⟩; exact ⟨rfl, Gr.mk (xg.h ++ h0) d0, by simp only [ext_ext, Gr.h_mk, Gr.d_mk, Array.append_assoc]⟩))))
  refine wpQuiet_nil ?_
  rintro _ ⟨g27, rfl⟩
  go_wp2
  go_returns
  refine ⟨rfl, ?_⟩
  first | exact (by repeat' (first | (with_reducible exact Grows.refl _) | (with_reducible refine Grows.alloc ?_ _) | (with_reducible refine Grows.drew ?_) | (with_reducible refine Grows.ext ?_ _ _))) | (refine Grows.setIn ?_ k0 _; exact (by repeat' (first | (with_reducible exact Grows.refl _) | (with_reducible refine Grows.alloc ?_ _) | (with_reducible refine Grows.drew ?_) | (with_reducible refine Grows.ext ?_ _ _)))) | (refine Grows.setIn (Grows.setIn ?_ k0 _) (by simp [go_sem]; omega) _; exact (by repeat' (first | (with_reducible exact Grows.refl _) | (with_reducible refine Grows.alloc ?_ _) | (with_reducible refine Grows.drew ?_) | (with_reducible refine Grows.ext ?_ _ _))))
end Go.Proofs.Ytafokiobbceibaa
