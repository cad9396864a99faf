/-
  Walks: what the pens make of a style. A run of pens: plain definitions, and what of a world stays. Walk: Run. Walk: Run, of a slice. style.Run of a slice of pens. SgrApart.
-/
import Derived.Test.YtobbphkfdhjmdaaDoorRows
import Derived.Test.YtobbphkfdhjmdaaDoorM1
import Derived.Test.YtobbphkfdhjmdaaDoorM4
import Derived.WalkKit
import Derived.WalkSpells
import Derived.WalkLawsBesides
import Derived.Handy
import Derived.Laws.EntriesVeiled
import Derived.Lib.Hide
import Derived.Deep.Light
import Derived.Deep.LoopGhost
import Derived.BigGuardPart
import Derived.BigQuiet
import Derived.Deep.QuietTactic
import Derived.Deep.RegionHeld3
import Derived.Deep.Heap
import Derived.Test.YtobbphkfdhjmdaaDoorM8
import Derived.Test.YtobbphkfdhjmdaaDoorM9
import Derived.Laws.Rows
import Derived.Great.BuildSlice
import Derived.IntWalk
import Derived.Outline
import Derived.Deep.DeepCutAuto
import Derived.Test.YtobbphkfdhjmdaaDoorM23
import Derived.Test.YtobbphkfdhjmdaaDoorM2
import Derived.Test.YtobbphkfdhjmdaaDoorM10
import Derived.Test.YtobbphkfdhjmdaaDoorM13
import Derived.Test.YtobbphkfdhjmdaaDoorM14
import Derived.Test.YtobbphkfdhjmdaaDoorM15
import Derived.Test.YtobbphkfdhjmdaaDoorM28
import Derived.OwnWalk
import Derived.Maps.AppendAt
import Derived.Deep.CutBlock
namespace Go.Proofs.YtobbphkfdhjmdaaDoor
open Go.RowKit


def StyAt (w : World) (B : Nat) (a u fk fn bk bn lk ln : Int) : Prop := B < w.heap.size ∧ w.cell? ⟨B, 0, none⟩ = some (.int .i64 a) ∧ w.cell? ⟨B, 1, none⟩ = some (.int .i64 u) ∧ w.cell? ⟨B, 2, none⟩ = some (.int .i64 fk) ∧ w.cell? ⟨B, 3, none⟩ = some (.int .i64 fn) ∧ w.cell? ⟨B, 4, none⟩ = some (.int .i64 bk) ∧ w.cell? ⟨B, 5, none⟩ = some (.int .i64 bn) ∧ w.cell? ⟨B, 6, none⟩ = some (.int .i64 lk) ∧ w.cell? ⟨B, 7, none⟩ = some (.int .i64 ln) ∧ w.frozen? ⟨B, 0, none⟩ = false ∧ w.frozen? ⟨B, 1, none⟩ = false ∧ w.frozen? ⟨B, 2, none⟩ = false ∧ w.frozen? ⟨B, 3, none⟩ = false ∧ w.frozen? ⟨B, 4, none⟩ = false ∧ w.frozen? ⟨B, 5, none⟩ = false ∧ w.frozen? ⟨B, 6, none⟩ = false ∧ w.frozen? ⟨B, 7, none⟩ = false
theorem StyAt.grows {w w' : World} {B : Nat} {a u fk fn bk bn lk ln : Int} (h : StyAt w B a u fk fn bk bn lk ln) (g : Grows w w') : StyAt w' B a u fk fn bk bn lk ln := by
  obtain ⟨x, d, rfl⟩ := g
  obtain ⟨h0, c0, c1, c2, c3, c4, c5, c6, c7, f0, f1, f2, f3, f4, f5, f6, f7⟩ := h
  refine ⟨by rw [ext_size]; omega, ?_, ?_, ?_, ?_, ?_, ?_, ?_, ?_, ?_, ?_, ?_, ?_, ?_, ?_, ?_, ?_⟩
  all_goals first | (rw [ext_cell _ _ _ _ _ h0]; assumption) | (rw [ext_frozen _ _ _ _ _ h0]; assumption)

theorem Grows.setIn {w w' : World} (g : Grows w w') {n i : Nat} (hn : n < w.heap.size) (v : Value) : Grows (w.setCell ⟨n, i, none⟩ v) (w'.setCell ⟨n, i, none⟩ v) := by
  obtain ⟨h, d, rfl⟩ := g
  exact ⟨h, d, ext_setCell _ _ _ _ _ _ hn⟩

set_option maxHeartbeats 4000000 in
theorem make_reset (B : Nat) (a u fk fn bk bn lk ln kd n m ck cn : Int) (s : ByteArray) (w : World) (hB : StyAt w B a u fk fn bk bn lk ln) : Calls Tryd.prog 58 #[.pointer (some ⟨B, 0, none⟩), .agg #[.int .i64 kd, .int .i64 n, .int .i64 m, .int .i64 ck, .int .i64 cn, .string s]] w (fun e w' => e = .returned (.tuple #[]) ∧ Grows (((((((((w).setCell ⟨B, 0, none⟩ (.int .i64 (0))).setCell ⟨B, 1, none⟩ (.int .i64 (0))).setCell ⟨B, 2, none⟩ (.int .i64 (0))).setCell ⟨B, 3, none⟩ (.int .i64 (0))).setCell ⟨B, 4, none⟩ (.int .i64 (0))).setCell ⟨B, 5, none⟩ (.int .i64 (0))).setCell ⟨B, 6, none⟩ (.int .i64 (0))).setCell ⟨B, 7, none⟩ (.int .i64 (0))) w') := by
  obtain ⟨k0, c0, c1, c2, c3, c4, c5, c6, c7, f0, f1, f2, f3, f4, f5, f6, f7⟩ := hB
  go_enter Tryd.func58, Tryd.ntmps58
  go_wp2_with fail
  go_returns
  refine ⟨rfl, ?_⟩
  first | exact (by repeat' (first | (with_reducible exact Grows.refl _) | (with_reducible refine Grows.alloc ?_ _) | (with_reducible refine Grows.drew ?_) | (with_reducible refine Grows.ext ?_ _ _))) | (refine Grows.setIn ?_ k0 _; exact (by repeat' (first | (with_reducible exact Grows.refl _) | (with_reducible refine Grows.alloc ?_ _) | (with_reducible refine Grows.drew ?_) | (with_reducible refine Grows.ext ?_ _ _)))) | (refine Grows.setIn (Grows.setIn ?_ k0 _) (by simp [go_sem]; omega) _; exact (by repeat' (first | (with_reducible exact Grows.refl _) | (with_reducible refine Grows.alloc ?_ _) | (with_reducible refine Grows.drew ?_) | (with_reducible refine Grows.ext ?_ _ _))))

set_option maxHeartbeats 4000000 in
theorem make_set (B : Nat) (a u fk fn bk bn lk ln kd n m ck cn : Int) (s : ByteArray) (w : World) (hB : StyAt w B a u fk fn bk bn lk ln) : Calls Tryd.prog 60 #[.pointer (some ⟨B, 0, none⟩), .agg #[.int .i64 kd, .int .i64 n, .int .i64 m, .int .i64 ck, .int .i64 cn, .string s]] w (fun e w' => e = .returned (.tuple #[]) ∧ Grows ((w).setCell ⟨B, 0, none⟩ (.int .i64 (bits .or .i64 a m))) w') := by
  obtain ⟨k0, c0, c1, c2, c3, c4, c5, c6, c7, f0, f1, f2, f3, f4, f5, f6, f7⟩ := hB
  go_enter Tryd.func60, Tryd.ntmps60
  go_wp2_with fail
  refine wp_region_grow_tail 9 (by kernel_rfl) (by kernel_rfl) ?_
  simp only [List.take_succ_cons, List.take_zero, List.drop_succ_cons, List.drop_zero]
  repeat (first | go_big_quiet_step ((fail)) | quiet_step ((fail)))
  refine wpQuiet_nil ?_
  rintro _ ⟨g23, rfl⟩
  go_wp2
  go_returns
  refine ⟨rfl, ?_⟩
  first | exact (by repeat' (first | (with_reducible exact Grows.refl _) | (with_reducible refine Grows.alloc ?_ _) | (with_reducible refine Grows.drew ?_) | (with_reducible refine Grows.ext ?_ _ _))) | (refine Grows.setIn ?_ k0 _; exact (by repeat' (first | (with_reducible exact Grows.refl _) | (with_reducible refine Grows.alloc ?_ _) | (with_reducible refine Grows.drew ?_) | (with_reducible refine Grows.ext ?_ _ _)))) | (refine Grows.setIn (Grows.setIn ?_ k0 _) (by simp [go_sem]; omega) _; exact (by repeat' (first | (with_reducible exact Grows.refl _) | (with_reducible refine Grows.alloc ?_ _) | (with_reducible refine Grows.drew ?_) | (with_reducible refine Grows.ext ?_ _ _))))

set_option maxHeartbeats 4000000 in
theorem make_clear (B : Nat) (a u fk fn bk bn lk ln kd n m ck cn : Int) (s : ByteArray) (w : World) (hB : StyAt w B a u fk fn bk bn lk ln) : Calls Tryd.prog 62 #[.pointer (some ⟨B, 0, none⟩), .agg #[.int .i64 kd, .int .i64 n, .int .i64 m, .int .i64 ck, .int .i64 cn, .string s]] w (fun e w' => e = .returned (.tuple #[]) ∧ Grows ((w).setCell ⟨B, 0, none⟩ (.int .i64 (bits .andNot .i64 a m))) w') := by
  obtain ⟨k0, c0, c1, c2, c3, c4, c5, c6, c7, f0, f1, f2, f3, f4, f5, f6, f7⟩ := hB
  go_enter Tryd.func62, Tryd.ntmps62
  go_wp2_with fail
  refine wp_region_grow_tail 9 (by kernel_rfl) (by kernel_rfl) ?_
  simp only [List.take_succ_cons, List.take_zero, List.drop_succ_cons, List.drop_zero]
  repeat (first | go_big_quiet_step ((fail)) | quiet_step ((fail)))
  refine wpQuiet_nil ?_
  rintro _ ⟨g24, rfl⟩
  go_wp2
  go_returns
  refine ⟨rfl, ?_⟩
  first | exact (by repeat' (first | (with_reducible exact Grows.refl _) | (with_reducible refine Grows.alloc ?_ _) | (with_reducible refine Grows.drew ?_) | (with_reducible refine Grows.ext ?_ _ _))) | (refine Grows.setIn ?_ k0 _; exact (by repeat' (first | (with_reducible exact Grows.refl _) | (with_reducible refine Grows.alloc ?_ _) | (with_reducible refine Grows.drew ?_) | (with_reducible refine Grows.ext ?_ _ _)))) | (refine Grows.setIn (Grows.setIn ?_ k0 _) (by simp [go_sem]; omega) _; exact (by repeat' (first | (with_reducible exact Grows.refl _) | (with_reducible refine Grows.alloc ?_ _) | (with_reducible refine Grows.drew ?_) | (with_reducible refine Grows.ext ?_ _ _))))

set_option maxHeartbeats 4000000 in
theorem make_under (B : Nat) (a u fk fn bk bn lk ln kd n m ck cn : Int) (s : ByteArray) (w : World) (hB : StyAt w B a u fk fn bk bn lk ln) : Calls Tryd.prog 64 #[.pointer (some ⟨B, 0, none⟩), .agg #[.int .i64 kd, .int .i64 n, .int .i64 m, .int .i64 ck, .int .i64 cn, .string s]] w (fun e w' => e = .returned (.tuple #[]) ∧ Grows ((w).setCell ⟨B, 1, none⟩ (.int .i64 (m))) w') := by
  obtain ⟨k0, c0, c1, c2, c3, c4, c5, c6, c7, f0, f1, f2, f3, f4, f5, f6, f7⟩ := hB
  go_enter Tryd.func64, Tryd.ntmps64
  go_wp2_with fail
  go_returns
  refine ⟨rfl, ?_⟩
  first | exact (by repeat' (first | (with_reducible exact Grows.refl _) | (with_reducible refine Grows.alloc ?_ _) | (with_reducible refine Grows.drew ?_) | (with_reducible refine Grows.ext ?_ _ _))) | (refine Grows.setIn ?_ k0 _; exact (by repeat' (first | (with_reducible exact Grows.refl _) | (with_reducible refine Grows.alloc ?_ _) | (with_reducible refine Grows.drew ?_) | (with_reducible refine Grows.ext ?_ _ _)))) | (refine Grows.setIn (Grows.setIn ?_ k0 _) (by simp [go_sem]; omega) _; exact (by repeat' (first | (with_reducible exact Grows.refl _) | (with_reducible refine Grows.alloc ?_ _) | (with_reducible refine Grows.drew ?_) | (with_reducible refine Grows.ext ?_ _ _))))

theorem part_0 (B : Nat) (w : World) : Calls Tryd.prog 65 #[.pointer (some ⟨B, 0, none⟩)] w (Ret (.pointer (some ⟨B, 2, none⟩)) w) := by
  go_enter Tryd.func65, Tryd.ntmps65
  go_wp2
  go_returns
  exact ⟨rfl, (by repeat' (first | (with_reducible exact Grows.refl _) | (with_reducible refine Grows.alloc ?_ _) | (with_reducible refine Grows.drew ?_) | (with_reducible refine Grows.ext ?_ _ _)))⟩

set_option maxHeartbeats 4000000 in
theorem make_col0 (B : Nat) (a u fk fn bk bn lk ln kd n m ck cn : Int) (s : ByteArray) (w : World) (hB : StyAt w B a u fk fn bk bn lk ln) (C : Nat) (hC : FnAt w C 65) : Calls Tryd.prog 57 #[.pointer (some ⟨B, 0, none⟩), .agg #[.int .i64 kd, .int .i64 n, .int .i64 m, .int .i64 ck, .int .i64 cn, .string s], .pointer (some ⟨C, 0, none⟩)] w (fun e w' => e = .returned (.tuple #[]) ∧ Grows (((w).setCell ⟨B, 2, none⟩ (.int .i64 (ck))).setCell ⟨B, 3, none⟩ (.int .i64 (cn))) w') := by
  obtain ⟨k0, c0, c1, c2, c3, c4, c5, c6, c7, f0, f1, f2, f3, f4, f5, f6, f7⟩ := hB
  obtain ⟨j0, j1⟩ := hC
  go_enter Tryd.func57, Tryd.ntmps57
  go_wp2_with fail
  refine wp_region_grow_tail 6 (by kernel_rfl) (by kernel_rfl) ?_
  simp only [List.take_succ_cons, List.take_zero, List.drop_succ_cons, List.drop_zero]
  repeat (first | go_big_quiet_step ((first | (rename_i xg; go_at_call 65; (with_reducible refine (part_0 _ _).mono ?_); rintro _ _ ⟨rfl, h0, d0, rfl⟩; exact ⟨rfl, Gr.mk (xg.h ++ h0) d0, by simp only [ext_ext, Gr.h_mk, Gr.d_mk]⟩))) | quiet_step ((first | (rename_i xg; go_at_call 65; (with_reducible refine (part_0 _ _).mono ?_); rintro _ _ ⟨rfl, h0, d0, rfl⟩; exact ⟨rfl, Gr.mk (xg.h ++ h0) d0, by simp only [ext_ext, Gr.h_mk, Gr.d_mk, Array.append_assoc]⟩))))
  refine wpQuiet_nil ?_
  rintro _ ⟨g25, rfl⟩
  go_wp2
  go_returns
  refine ⟨rfl, ?_⟩
  first | exact (by repeat' (first | (with_reducible exact Grows.refl _) | (with_reducible refine Grows.alloc ?_ _) | (with_reducible refine Grows.drew ?_) | (with_reducible refine Grows.ext ?_ _ _))) | (refine Grows.setIn ?_ k0 _; exact (by repeat' (first | (with_reducible exact Grows.refl _) | (with_reducible refine Grows.alloc ?_ _) | (with_reducible refine Grows.drew ?_) | (with_reducible refine Grows.ext ?_ _ _)))) | (refine Grows.setIn (Grows.setIn ?_ k0 _) (by simp [go_sem]; omega) _; exact (by repeat' (first | (with_reducible exact Grows.refl _) | (with_reducible refine Grows.alloc ?_ _) | (with_reducible refine Grows.drew ?_) | (with_reducible refine Grows.ext ?_ _ _))))

theorem part_1 (B : Nat) (w : World) : Calls Tryd.prog 66 #[.pointer (some ⟨B, 0, none⟩)] w (Ret (.pointer (some ⟨B, 4, none⟩)) w) := by
  go_enter Tryd.func66, Tryd.ntmps66
  go_wp2
  go_returns
  exact ⟨rfl, (by repeat' (first | (with_reducible exact Grows.refl _) | (with_reducible refine Grows.alloc ?_ _) | (with_reducible refine Grows.drew ?_) | (with_reducible refine Grows.ext ?_ _ _)))⟩

set_option maxHeartbeats 4000000 in
theorem make_col1 (B : Nat) (a u fk fn bk bn lk ln kd n m ck cn : Int) (s : ByteArray) (w : World) (hB : StyAt w B a u fk fn bk bn lk ln) (C : Nat) (hC : FnAt w C 66) : Calls Tryd.prog 57 #[.pointer (some ⟨B, 0, none⟩), .agg #[.int .i64 kd, .int .i64 n, .int .i64 m, .int .i64 ck, .int .i64 cn, .string s], .pointer (some ⟨C, 0, none⟩)] w (fun e w' => e = .returned (.tuple #[]) ∧ Grows (((w).setCell ⟨B, 4, none⟩ (.int .i64 (ck))).setCell ⟨B, 5, none⟩ (.int .i64 (cn))) w') := by
  obtain ⟨k0, c0, c1, c2, c3, c4, c5, c6, c7, f0, f1, f2, f3, f4, f5, f6, f7⟩ := hB
  obtain ⟨j0, j1⟩ := hC
  go_enter Tryd.func57, Tryd.ntmps57
  go_wp2_with fail
  refine wp_region_grow_tail 6 (by kernel_rfl) (by kernel_rfl) ?_
  simp only [List.take_succ_cons, List.take_zero, List.drop_succ_cons, List.drop_zero]
  repeat (first | go_big_quiet_step ((first | (rename_i xg; go_at_call 66; (with_reducible refine (part_1 _ _).mono ?_); rintro _ _ ⟨rfl, h0, d0, rfl⟩; exact ⟨rfl, Gr.mk (xg.h ++ h0) d0, by simp only [ext_ext, Gr.h_mk, Gr.d_mk]⟩))) | quiet_step ((first | (rename_i xg; go_at_call 66; (with_reducible refine (part_1 _ _).mono ?_); rintro _ _ ⟨rfl, h0, d0, rfl⟩; exact ⟨rfl, Gr.mk (xg.h ++ h0) d0, by simp only [ext_ext, Gr.h_mk, Gr.d_mk, Array.append_assoc]⟩))))
  refine wpQuiet_nil ?_
  rintro _ ⟨g26, rfl⟩
  go_wp2
  go_returns
  refine ⟨rfl, ?_⟩
  first | exact (by repeat' (first | (with_reducible exact Grows.refl _) | (with_reducible refine Grows.alloc ?_ _) | (with_reducible refine Grows.drew ?_) | (with_reducible refine Grows.ext ?_ _ _))) | (refine Grows.setIn ?_ k0 _; exact (by repeat' (first | (with_reducible exact Grows.refl _) | (with_reducible refine Grows.alloc ?_ _) | (with_reducible refine Grows.drew ?_) | (with_reducible refine Grows.ext ?_ _ _)))) | (refine Grows.setIn (Grows.setIn ?_ k0 _) (by simp [go_sem]; omega) _; exact (by repeat' (first | (with_reducible exact Grows.refl _) | (with_reducible refine Grows.alloc ?_ _) | (with_reducible refine Grows.drew ?_) | (with_reducible refine Grows.ext ?_ _ _))))

theorem part_2 (B : Nat) (w : World) : Calls Tryd.prog 67 #[.pointer (some ⟨B, 0, none⟩)] w (Ret (.pointer (some ⟨B, 6, none⟩)) w) := by
  go_enter Tryd.func67, Tryd.ntmps67
  go_wp2
  go_returns
  exact ⟨rfl, (by repeat' (first | (with_reducible exact Grows.refl _) | (with_reducible refine Grows.alloc ?_ _) | (with_reducible refine Grows.drew ?_) | (with_reducible refine Grows.ext ?_ _ _)))⟩

set_option maxHeartbeats 4000000 in
theorem make_col2 (B : Nat) (a u fk fn bk bn lk ln kd n m ck cn : Int) (s : ByteArray) (w : World) (hB : StyAt w B a u fk fn bk bn lk ln) (C : Nat) (hC : FnAt w C 67) : Calls Tryd.prog 57 #[.pointer (some ⟨B, 0, none⟩), .agg #[.int .i64 kd, .int .i64 n, .int .i64 m, .int .i64 ck, .int .i64 cn, .string s], .pointer (some ⟨C, 0, none⟩)] w (fun e w' => e = .returned (.tuple #[]) ∧ Grows (((w).setCell ⟨B, 6, none⟩ (.int .i64 (ck))).setCell ⟨B, 7, none⟩ (.int .i64 (cn))) w') := by
  obtain ⟨k0, c0, c1, c2, c3, c4, c5, c6, c7, f0, f1, f2, f3, f4, f5, f6, f7⟩ := hB
  obtain ⟨j0, j1⟩ := hC
  go_enter Tryd.func57, Tryd.ntmps57
  go_wp2_with fail
  refine wp_region_grow_tail 6 (by kernel_rfl) (by kernel_rfl) ?_
  simp only [List.take_succ_cons, List.take_zero, List.drop_succ_cons, List.drop_zero]
  repeat (first | go_big_quiet_step ((first | (rename_i xg; go_at_call 67; (with_reducible refine (part_2 _ _).mono ?_); rintro _ _ ⟨rfl, h0, d0, rfl⟩; exact ⟨rfl, Gr.mk (xg.h ++ h0) d0, by simp only [ext_ext, Gr.h_mk, Gr.d_mk]⟩))) | quiet_step ((first | (rename_i xg; go_at_call 67; (with_reducible refine (part_2 _ _).mono ?_); rintro _ _ ⟨rfl, h0, d0, rfl⟩; exact ⟨rfl, Gr.mk (xg.h ++ h0) d0, by simp only [ext_ext, Gr.h_mk, Gr.d_mk, Array.append_assoc]⟩))))
  refine wpQuiet_nil ?_
  rintro _ ⟨g27, rfl⟩
  go_wp2
  go_returns
  refine ⟨rfl, ?_⟩
  first | exact (by repeat' (first | (with_reducible exact Grows.refl _) | (with_reducible refine Grows.alloc ?_ _) | (with_reducible refine Grows.drew ?_) | (with_reducible refine Grows.ext ?_ _ _))) | (refine Grows.setIn ?_ k0 _; exact (by repeat' (first | (with_reducible exact Grows.refl _) | (with_reducible refine Grows.alloc ?_ _) | (with_reducible refine Grows.drew ?_) | (with_reducible refine Grows.ext ?_ _ _)))) | (refine Grows.setIn (Grows.setIn ?_ k0 _) (by simp [go_sem]; omega) _; exact (by repeat' (first | (with_reducible exact Grows.refl _) | (with_reducible refine Grows.alloc ?_ _) | (with_reducible refine Grows.drew ?_) | (with_reducible refine Grows.ext ?_ _ _))))
end Go.Proofs.YtobbphkfdhjmdaaDoor

namespace Go.Proofs.YtobbphkfdhjmdaaDoor
open Go.RowKit


structure PenS where
  kd : Int
  n : Int
  m : Int
  ck : Int
  cn : Int
  s : ByteArray
structure Sty where
  a : Int
  u : Int
  fk : Int
  fn : Int
  bk : Int
  bn : Int
  lk : Int
  ln : Int
def styV (x : Sty) : Value := .agg #[.int .i64 x.a, .int .i64 x.u, .int .i64 x.fk, .int .i64 x.fn, .int .i64 x.bk, .int .i64 x.bn, .int .i64 x.lk, .int .i64 x.ln]
def okP (p : PenS) : Bool := pnB p.kd p.n p.m p.ck p.cn p.s
def apS (x : Sty) (p : PenS) : Sty :=
  if p.n = 0 then ⟨0, 0, 0, 0, 0, 0, 0, 0⟩ else if p.n = 1 then { x with a := bits .or .i64 x.a p.m } else if p.n = 2 then { x with a := bits .andNot .i64 x.a p.m } else if p.n = 3 then { x with u := p.m }
  else if p.n = 4 then { x with fk := p.ck, fn := p.cn } else if p.n = 5 then { x with bk := p.ck, bn := p.cn } else { x with lk := p.ck, ln := p.cn }
def runS : Sty → List PenS → Option Sty
  | x, [] => some x
  | x, p :: l => if okP p then runS (apS x p) l else none
def errS (x : Sty) : Int := stErr x.a x.u x.fk x.fn x.bk x.bn x.lk x.ln
def zeroS : Sty := ⟨0, 0, 0, 0, 0, 0, 0, 0⟩
def runV (x : Sty) (l : List PenS) : Value :=
  if errS x != 0 then .tuple #[styV zeroS, .int .i64 (errS x)] else match runS x l with | some y => .tuple #[styV y, .int .i64 0] | none => .tuple #[styV zeroS, .int .i64 141]
/-- The pens of a slice, at its cells. -/
def PensIn (w : World) (bl off : Nat) (l : List PenS) : Prop := ∀ (i : Nat) (p : PenS), l[i]? = some p → In64 p.m ∧ w.cell? ⟨bl, off + i * 6, none⟩ = some (.int .i64 p.kd) ∧ w.cell? ⟨bl, off + i * 6 + 1, none⟩ = some (.int .i64 p.n) ∧ w.cell? ⟨bl, off + i * 6 + 2, none⟩ = some (.int .i64 p.m) ∧ w.cell? ⟨bl, off + i * 6 + 3, none⟩ = some (.int .i64 p.ck) ∧ w.cell? ⟨bl, off + i * 6 + 4, none⟩ = some (.int .i64 p.cn) ∧ w.cell? ⟨bl, off + i * 6 + 5, none⟩ = some (.string p.s)
theorem Grows.cell {w w' : World} (g : Grows w w') (n i : Nat) (hn : n < w.heap.size) : w'.cell? ⟨n, i, none⟩ = w.cell? ⟨n, i, none⟩ ∧ n < w'.heap.size := by
  obtain ⟨h, d, rfl⟩ := g
  exact ⟨ext_cell _ _ _ _ _ hn, by rw [ext_size]; omega⟩
theorem abs_world {P : Program} {c : Code} {Q : Exit → Act → World → Prop} {a : Act} {w : World} (F : World → Prop) (hF : F w) (h : ∀ W, F W → c.wp P Q a W) : c.wp P Q a w := h w hF
theorem run_done {x y : Sty} {l : List PenS} {k : Nat} (h : runS x l = runS y (l.drop k)) (hk : k = l.length) : runS x l = some y := by
  subst hk
  rw [h, List.drop_length]
  rfl
theorem run_next {x y : Sty} {l : List PenS} {k : Nat} {p : PenS} (h : runS x l = runS y (l.drop k)) (hp : l[k]? = some p) (ho : okP p = true) : runS x l = runS (apS y p) (l.drop (k + 1)) := by
  obtain ⟨hk, rfl⟩ := List.getElem?_eq_some_iff.1 hp
  rw [h, List.drop_eq_getElem_cons hk, runS, if_pos ho]
theorem run_stop {x y : Sty} {l : List PenS} {k : Nat} {p : PenS} (h : runS x l = runS y (l.drop k)) (hp : l[k]? = some p) (ho : okP p = false) : runS x l = none := by
  obtain ⟨hk, rfl⟩ := List.getElem?_eq_some_iff.1 hp
  rw [h, List.drop_eq_getElem_cons hk, runS, if_neg (by rw [ho]; exact Bool.false_ne_true)]
theorem heap_set {w : World} {N k i : Nat} {v : Value} (h : k ≠ N) : (w.setCell ⟨N, i, none⟩ v).heap[k]? = w.heap[k]? := Deep.blk_setCell_other w ⟨N, i, none⟩ v k h
theorem FnAt.set {w : World} {C k N i : Nat} {v : Value} (h : FnAt w C k) (hn : C ≠ N) : FnAt (w.setCell ⟨N, i, none⟩ v) C k := by
  refine ⟨by rw [World.size_setCell]; exact h.1, ?_⟩
  rw [← h.2]
  exact World.cell?_of_block (heap_set hn)
theorem PensAt.set {w : World} {B C1 C2 C3 N i : Nat} {v : Value} (h : PensAt w B C1 C2 C3) (hn : N < B ∧ N < C1 ∧ N < C2 ∧ N < C3) : PensAt (w.setCell ⟨N, i, none⟩ v) B C1 C2 C3 := by
  obtain ⟨h0, h1, h2, h3, h4, h5⟩ := h
  have hh := heap_set (w := w) (N := N) (k := B) (i := i) (v := v) (by omega)
  exact ⟨by rw [World.size_setCell]; exact h0, by unfold isMap at *; rw [hh]; exact h1, by unfold mapEs at *; rw [hh]; exact h2, h3.set (by omega), h4.set (by omega), h5.set (by omega)⟩
theorem StyAt.setA {w : World} {B : Nat} {a u fk fn bk bn lk ln : Int} (h : StyAt w B a u fk fn bk bn lk ln) (x0 : Int) : StyAt (w.setCell ⟨B, 0, none⟩ (.int .i64 x0)) B x0 u fk fn bk bn lk ln := by
  obtain ⟨k0, c0, c1, c2, c3, c4, c5, c6, c7, f0, f1, f2, f3, f4, f5, f6, f7⟩ := h
  refine ⟨by simp [go_sem, k0], ?_, ?_, ?_, ?_, ?_, ?_, ?_, ?_, ?_, ?_, ?_, ?_, ?_, ?_, ?_, ?_⟩ <;> simp [go_sem, *]
theorem StyAt.setU {w : World} {B : Nat} {a u fk fn bk bn lk ln : Int} (h : StyAt w B a u fk fn bk bn lk ln) (x1 : Int) : StyAt (w.setCell ⟨B, 1, none⟩ (.int .i64 x1)) B a x1 fk fn bk bn lk ln := by
  obtain ⟨k0, c0, c1, c2, c3, c4, c5, c6, c7, f0, f1, f2, f3, f4, f5, f6, f7⟩ := h
  refine ⟨by simp [go_sem, k0], ?_, ?_, ?_, ?_, ?_, ?_, ?_, ?_, ?_, ?_, ?_, ?_, ?_, ?_, ?_, ?_⟩ <;> simp [go_sem, *]
theorem StyAt.setF {w : World} {B : Nat} {a u fk fn bk bn lk ln : Int} (h : StyAt w B a u fk fn bk bn lk ln) (x2 x3 : Int) : StyAt ((w.setCell ⟨B, 2, none⟩ (.int .i64 x2)).setCell ⟨B, 3, none⟩ (.int .i64 x3)) B a u x2 x3 bk bn lk ln := by
  obtain ⟨k0, c0, c1, c2, c3, c4, c5, c6, c7, f0, f1, f2, f3, f4, f5, f6, f7⟩ := h
  refine ⟨by simp [go_sem, k0], ?_, ?_, ?_, ?_, ?_, ?_, ?_, ?_, ?_, ?_, ?_, ?_, ?_, ?_, ?_, ?_⟩ <;> simp [go_sem, *]
theorem StyAt.setB {w : World} {B : Nat} {a u fk fn bk bn lk ln : Int} (h : StyAt w B a u fk fn bk bn lk ln) (x4 x5 : Int) : StyAt ((w.setCell ⟨B, 4, none⟩ (.int .i64 x4)).setCell ⟨B, 5, none⟩ (.int .i64 x5)) B a u fk fn x4 x5 lk ln := by
  obtain ⟨k0, c0, c1, c2, c3, c4, c5, c6, c7, f0, f1, f2, f3, f4, f5, f6, f7⟩ := h
  refine ⟨by simp [go_sem, k0], ?_, ?_, ?_, ?_, ?_, ?_, ?_, ?_, ?_, ?_, ?_, ?_, ?_, ?_, ?_, ?_⟩ <;> simp [go_sem, *]
theorem StyAt.setL {w : World} {B : Nat} {a u fk fn bk bn lk ln : Int} (h : StyAt w B a u fk fn bk bn lk ln) (x6 x7 : Int) : StyAt ((w.setCell ⟨B, 6, none⟩ (.int .i64 x6)).setCell ⟨B, 7, none⟩ (.int .i64 x7)) B a u fk fn bk bn x6 x7 := by
  obtain ⟨k0, c0, c1, c2, c3, c4, c5, c6, c7, f0, f1, f2, f3, f4, f5, f6, f7⟩ := h
  refine ⟨by simp [go_sem, k0], ?_, ?_, ?_, ?_, ?_, ?_, ?_, ?_, ?_, ?_, ?_, ?_, ?_, ?_, ?_, ?_⟩ <;> simp [go_sem, *]
theorem StyAt.setAll {w : World} {B : Nat} {a u fk fn bk bn lk ln : Int} (h : StyAt w B a u fk fn bk bn lk ln) (x0 x1 x2 x3 x4 x5 x6 x7 : Int) : StyAt ((((((((w.setCell ⟨B, 0, none⟩ (.int .i64 x0)).setCell ⟨B, 1, none⟩ (.int .i64 x1)).setCell ⟨B, 2, none⟩ (.int .i64 x2)).setCell ⟨B, 3, none⟩ (.int .i64 x3)).setCell ⟨B, 4, none⟩ (.int .i64 x4)).setCell ⟨B, 5, none⟩ (.int .i64 x5)).setCell ⟨B, 6, none⟩ (.int .i64 x6)).setCell ⟨B, 7, none⟩ (.int .i64 x7)) B x0 x1 x2 x3 x4 x5 x6 x7 := by
  obtain ⟨k0, c0, c1, c2, c3, c4, c5, c6, c7, f0, f1, f2, f3, f4, f5, f6, f7⟩ := h
  refine ⟨by simp [go_sem, k0], ?_, ?_, ?_, ?_, ?_, ?_, ?_, ?_, ?_, ?_, ?_, ?_, ?_, ?_, ?_, ?_⟩ <;> simp [go_sem, *]
theorem StyAt.other {w : World} {B N i : Nat} {v : Value} {a u fk fn bk bn lk ln : Int} (h : StyAt w B a u fk fn bk bn lk ln) (hn : B ≠ N) : StyAt (w.setCell ⟨N, i, none⟩ v) B a u fk fn bk bn lk ln := by
  obtain ⟨k0, c0, c1, c2, c3, c4, c5, c6, c7, f0, f1, f2, f3, f4, f5, f6, f7⟩ := h
  have hh := heap_set (w := w) (N := N) (k := B) (i := i) (v := v) hn
  have hc : ∀ j, (w.setCell ⟨N, i, none⟩ v).cell? ⟨B, j, none⟩ = w.cell? ⟨B, j, none⟩ := fun j => World.cell?_of_block hh
  have hf : ∀ j, (w.setCell ⟨N, i, none⟩ v).frozen? ⟨B, j, none⟩ = w.frozen? ⟨B, j, none⟩ := fun j => by unfold World.frozen?; rw [hh]
  exact ⟨by rw [World.size_setCell]; exact k0, by rw [hc]; exact c0, by rw [hc]; exact c1, by rw [hc]; exact c2, by rw [hc]; exact c3, by rw [hc]; exact c4, by rw [hc]; exact c5, by rw [hc]; exact c6, by rw [hc]; exact c7, by rw [hf]; exact f0, by rw [hf]; exact f1, by rw [hf]; exact f2, by rw [hf]; exact f3, by rw [hf]; exact f4, by rw [hf]; exact f5, by rw [hf]; exact f6, by rw [hf]; exact f7⟩
end Go.Proofs.YtobbphkfdhjmdaaDoor

namespace Go.Proofs.YtobbphkfdhjmdaaDoor
open Go.RowKit


theorem look67f (w : World) (r : Nat) (k : Int) (h : isMap w r = true) (hf : intKeys (mapEs w r).toList = true) : (Instr.lookup 81 (.map (some r)) (.int .i64 k) false).run Tryd.prog w = .ok (findV (.agg #[.nilFunc, .bool false, .nilFunc]) k (mapEs w r).toList).1 w := by
  have := run_look Tryd.underlying81 Tryd.underlying3 (z := .agg #[.nilFunc, .bool false, .nilFunc]) (fun w => by kernel_rfl) w r k false h hf
  simpa using this
theorem fld65 (x y z : Value) (w : World) : (Instr.field 86 (.agg #[x, y, z]) 2).run Tryd.prog w = .ok z w := by kernel_rfl
theorem rpens_run (w : World) : Calls Tryd.prog 34 #[] w (fun e w' => ∃ (B C1 C2 C3 : Nat) (h : Array Obj) (d : Nat), e = .returned (.map (some B)) ∧ w' = ext w h d ∧ PensAt (ext w h d) B C1 C2 C3 ∧ (w.heap.size ≤ B ∧ w.heap.size ≤ C1 ∧ w.heap.size ≤ C2 ∧ w.heap.size ≤ C3)) := by
  refine (pens_full w).mono ?_
  rintro e w' ⟨rfl, rfl⟩
  have hp : PensAt (((((((w.alloc (.map (penEs (w.heap.size + 1) (w.heap.size + 1 + 1 + 1) (w.heap.size + 1 + 1 + 1 + 1 + 1)) 7)).alloc (.cells #[.func (.func 65) #[] #[]] 119)).alloc (.cells #[.func (.func 56) #[] #[], .bool true, .func (.func 57) #[] #[.pointer (some ⟨w.heap.size + 1, 0, none⟩)]] 86)).alloc (.cells #[.func (.func 66) #[] #[]] 119)).alloc (.cells #[.func (.func 56) #[] #[], .bool true, .func (.func 57) #[] #[.pointer (some ⟨w.heap.size + 1 + 1 + 1, 0, none⟩)]] 86)).alloc (.cells #[.func (.func 67) #[] #[]] 119)).alloc (.cells #[.func (.func 56) #[] #[], .bool true, .func (.func 57) #[] #[.pointer (some ⟨w.heap.size + 1 + 1 + 1 + 1 + 1, 0, none⟩)]] 86)) w.heap.size (w.heap.size + 1) (w.heap.size + 1 + 1 + 1) (w.heap.size + 1 + 1 + 1 + 1 + 1) := ⟨by simp [go_sem], by simp [go_sem], by simp [go_sem], ⟨by simp [go_sem], by simp [go_sem]⟩, ⟨by simp [go_sem], by simp [go_sem]⟩, ⟨by simp [go_sem], by simp [go_sem]⟩⟩
  have hg : Grows w (((((((w.alloc (.map (penEs (w.heap.size + 1) (w.heap.size + 1 + 1 + 1) (w.heap.size + 1 + 1 + 1 + 1 + 1)) 7)).alloc (.cells #[.func (.func 65) #[] #[]] 119)).alloc (.cells #[.func (.func 56) #[] #[], .bool true, .func (.func 57) #[] #[.pointer (some ⟨w.heap.size + 1, 0, none⟩)]] 86)).alloc (.cells #[.func (.func 66) #[] #[]] 119)).alloc (.cells #[.func (.func 56) #[] #[], .bool true, .func (.func 57) #[] #[.pointer (some ⟨w.heap.size + 1 + 1 + 1, 0, none⟩)]] 86)).alloc (.cells #[.func (.func 67) #[] #[]] 119)).alloc (.cells #[.func (.func 56) #[] #[], .bool true, .func (.func 57) #[] #[.pointer (some ⟨w.heap.size + 1 + 1 + 1 + 1 + 1, 0, none⟩)]] 86)) := (by repeat' (first | (with_reducible exact Grows.refl _) | (with_reducible refine Grows.alloc ?_ _) | (with_reducible refine Grows.drew ?_) | (with_reducible refine Grows.ext ?_ _ _)))
  revert hp
  obtain ⟨h, d, e⟩ := hg
  rw [e]
  intro hp
  exact ⟨_, _, _, _, h, d, rfl, rfl, hp, by omega, by omega, by omega, by omega⟩

set_option maxRecDepth 100000 in
set_option maxHeartbeats 20000000 in
theorem run_nil (a u fk fn bk bn lk ln : Int) (hi : In64 a) (oa : Option Addr) (cap : Nat) (w : World) : Calls Tryd.prog 18 #[.agg #[.int .i64 a, .int .i64 u, .int .i64 fk, .int .i64 fn, .int .i64 bk, .int .i64 bn, .int .i64 lk, .int .i64 ln], .slice oa 0 cap] w (Ret (runV ⟨a, u, fk, fn, bk, bn, lk, ln⟩ []) w) := by
  have hck := fun V => check_any a u fk fn bk bn lk ln hi V
  have hres : runV ⟨a, u, fk, fn, bk, bn, lk, ln⟩ [] = if stErr a u fk fn bk bn lk ln != 0 then .tuple #[styV zeroS, .int .i64 (stErr a u fk fn bk bn lk ln)] else match runS ⟨a, u, fk, fn, bk, bn, lk, ln⟩ [] with | some y => .tuple #[styV y, .int .i64 0] | none => .tuple #[styV zeroS, .int .i64 141] := rfl
  have hst : stErr a u fk fn bk bn lk ln = 0 ∨ (stErr a u fk fn bk bn lk ln != 0) = true := by
    by_cases h : stErr a u fk fn bk bn lk ln = 0
    · exact Or.inl h
    · exact Or.inr (by simpa using h)
  generalize stErr a u fk fn bk bn lk ln = E at *
  rw [hres]
  have Hck := Lib.hid hck
  clear hck hi hres
  rcases hst with rfl | hE
  · simp only [bne_self_eq_false, Bool.false_eq_true, if_false]
    obtain ⟨V, hV⟩ : ∃ V, V = (match runS ⟨a, u, fk, fn, bk, bn, lk, ln⟩ [] with | some y => Value.tuple #[styV y, .int .i64 0] | none => .tuple #[styV zeroS, .int .i64 141]) := ⟨_, rfl⟩
    rw [← hV]
    have HV := Lib.hid hV
    clear hV
    go_enter Tryd.func18, Tryd.ntmps18
    go_wp2_with (first | (go_at_call 33; (with_reducible refine (Hck.out _).mono ?_); rintro e w' ⟨rfl, h1, d1, rfl⟩) | (go_at_call 34; (with_reducible refine (rpens_run _).mono ?_); rintro e w' ⟨B, C1, C2, C3, h2, d2, rfl, rfl, hP, hle⟩))
    refine abs_world (F := fun W => StyAt W w.heap.size a u fk fn bk bn lk ln ∧ StyAt W (w.heap.size + 1) 0 0 0 0 0 0 0 0 ∧ PensAt W B C1 C2 C3 ∧ Grows w W) ⟨⟨by simp [go_sem], by simp [go_sem], by simp [go_sem], by simp [go_sem], by simp [go_sem], by simp [go_sem], by simp [go_sem], by simp [go_sem], by simp [go_sem], by simp [go_sem], by simp [go_sem], by simp [go_sem], by simp [go_sem], by simp [go_sem], by simp [go_sem], by simp [go_sem], by simp [go_sem]⟩, ⟨by simp [go_sem], by simp [go_sem], by simp [go_sem], by simp [go_sem], by simp [go_sem], by simp [go_sem], by simp [go_sem], by simp [go_sem], by simp [go_sem], by simp [go_sem], by simp [go_sem], by simp [go_sem], by simp [go_sem], by simp [go_sem], by simp [go_sem], by simp [go_sem], by simp [go_sem]⟩, (by simp only [ext_ext] at hP ⊢; exact hP), (by repeat' (first | (with_reducible exact Grows.refl _) | (with_reducible refine Grows.alloc ?_ _) | (with_reducible refine Grows.drew ?_) | (with_reducible refine Grows.ext ?_ _ _)))⟩ ?_
    clear hP
    rintro wo ⟨hS, hO, hP, hG⟩
    have hle2 : w.heap.size + 1 < B ∧ w.heap.size + 1 < C1 ∧ w.heap.size + 1 < C2 ∧ w.heap.size + 1 < C3 := by simp only [ext_size, World.size_alloc] at hle; omega
    have hne : w.heap.size + 1 ≠ w.heap.size := by omega
    clear hle
    have hle3 : w.heap.size < w.heap.size + 1 := by omega
    generalize hBo : w.heap.size + 1 = Bo at *
    generalize hBs : w.heap.size = Bs at *
    have hwo : w.heap.size ≤ Bo := by omega
    have hwo2 : w.heap.size ≤ Bs := by omega
    clear hBo hBs
    go_loopw [20] (fun i wr' => ∃ (wv : World) (k : Nat) (x : Sty), wv = wr' ∧ k ≤ 0 ∧ i = .int .i64 k ∧ runS ⟨a, u, fk, fn, bk, bn, lk, ln⟩ [] = some x ∧ StyAt wv Bs x.a x.u x.fk x.fn x.bk x.bn x.lk x.ln ∧ StyAt wv Bo 0 0 0 0 0 0 0 0 ∧ PensAt wv B C1 C2 C3 ∧ Grows w wv) (fun i _ => 0 - (intOf i).toNat)
    case atStart => exact ⟨_, 0, ⟨a, u, fk, fn, bk, bn, lk, ln⟩, rfl, by omega, rfl, rfl, hS, hO, hP, hG⟩
    case round =>
      clear hS hO hP hG
      obtain ⟨wv, k, x, rfl, hk, rfl, hrun, hS, hO, hP, hG⟩ := hrel
      have hS0 := hS
      have hO0 := hO
      obtain ⟨t0, j0, j1, j2, j3, j4, j5, j6, j7, g0, g1, g2, g3, g4, g5, g6, g7⟩ := hS
      obtain ⟨t1, i0, i1, i2, i3, i4, i5, i6, i7, o0, o1, o2, o3, o4, o5, o6, o7⟩ := hO
      obtain rfl : k = 0 := by omega
      have HR := Lib.hid hrun
      clear hrun
      go_wp2
      (try simp only [Exit.inBlock, Exit.then])
      refine bodyPost_ret (by simp [results, Tryd.results18, go_sem, i0, i1, i2, i3, i4, i5, i6, i7]; try rfl) rfl ?_
      refine ⟨?_, (by repeat' (first | (with_reducible exact hG) | (with_reducible refine Grows.setCell ?_ hwo2 _) | (with_reducible refine Grows.setCell ?_ hwo _) | (with_reducible exact Grows.refl _) | (with_reducible refine Grows.alloc ?_ _) | (with_reducible refine Grows.drew ?_) | (with_reducible refine Grows.ext ?_ _ _)))⟩
      rw [HV.out, HR.out]
      rfl

  · simp only [hE, if_true]
    go_enter Tryd.func18, Tryd.ntmps18
    go_wp2_with (go_at_call 33; (with_reducible refine (Hck.out _).mono ?_); rintro e w' ⟨rfl, h1, d1, rfl⟩)
    go_returns
    exact ⟨rfl, (by repeat' (first | (with_reducible exact Grows.refl _) | (with_reducible refine Grows.alloc ?_ _) | (with_reducible refine Grows.drew ?_) | (with_reducible refine Grows.ext ?_ _ _)))⟩
end Go.Proofs.YtobbphkfdhjmdaaDoor

namespace Go.Proofs.YtobbphkfdhjmdaaDoor
open Go.RowKit


set_option maxRecDepth 100000 in
set_option maxHeartbeats 20000000 in
theorem run_any (a u fk fn bk bn lk ln : Int) (hi : In64 a) (l : List PenS) (bl off cap : Nat) (w : World) (hl : l.length ≤ 9223372036854775807) (hb : bl < w.heap.size) (hc : PensIn w bl off l) : Calls Tryd.prog 18 #[.agg #[.int .i64 a, .int .i64 u, .int .i64 fk, .int .i64 fn, .int .i64 bk, .int .i64 bn, .int .i64 lk, .int .i64 ln], .slice (some ⟨bl, off, none⟩) l.length cap] w (Ret (runV ⟨a, u, fk, fn, bk, bn, lk, ln⟩ l) w) := by
  have hck := fun V => check_any a u fk fn bk bn lk ln hi V
  have hres : runV ⟨a, u, fk, fn, bk, bn, lk, ln⟩ l = if stErr a u fk fn bk bn lk ln != 0 then .tuple #[styV zeroS, .int .i64 (stErr a u fk fn bk bn lk ln)] else match runS ⟨a, u, fk, fn, bk, bn, lk, ln⟩ l with | some y => .tuple #[styV y, .int .i64 0] | none => .tuple #[styV zeroS, .int .i64 141] := rfl
  have hst : stErr a u fk fn bk bn lk ln = 0 ∨ (stErr a u fk fn bk bn lk ln != 0) = true := by
    by_cases h : stErr a u fk fn bk bn lk ln = 0
    · exact Or.inl h
    · exact Or.inr (by simpa using h)
  generalize stErr a u fk fn bk bn lk ln = E at *
  rw [hres]
  have Hck := Lib.hid hck
  clear hck hi hres
  rcases hst with rfl | hE
  · simp only [bne_self_eq_false, Bool.false_eq_true, if_false]
    obtain ⟨V, hV⟩ : ∃ V, V = (match runS ⟨a, u, fk, fn, bk, bn, lk, ln⟩ l with | some y => Value.tuple #[styV y, .int .i64 0] | none => .tuple #[styV zeroS, .int .i64 141]) := ⟨_, rfl⟩
    rw [← hV]
    have HV := Lib.hid hV
    clear hV
    have Hc := Lib.hid hc
    clear hc
    have hfl := fld65
    go_enter Tryd.func18, Tryd.ntmps18
    go_wp2_with (first | (go_at_call 33; (with_reducible refine (Hck.out _).mono ?_); rintro e w' ⟨rfl, h1, d1, rfl⟩) | (go_at_call 34; (with_reducible refine (rpens_run _).mono ?_); rintro e w' ⟨B, C1, C2, C3, h2, d2, rfl, rfl, hP, hle⟩))
    refine abs_world (F := fun W => StyAt W w.heap.size a u fk fn bk bn lk ln ∧ StyAt W (w.heap.size + 1) 0 0 0 0 0 0 0 0 ∧ PensAt W B C1 C2 C3 ∧ Grows w W) ⟨⟨by simp [go_sem], by simp [go_sem], by simp [go_sem], by simp [go_sem], by simp [go_sem], by simp [go_sem], by simp [go_sem], by simp [go_sem], by simp [go_sem], by simp [go_sem], by simp [go_sem], by simp [go_sem], by simp [go_sem], by simp [go_sem], by simp [go_sem], by simp [go_sem], by simp [go_sem]⟩, ⟨by simp [go_sem], by simp [go_sem], by simp [go_sem], by simp [go_sem], by simp [go_sem], by simp [go_sem], by simp [go_sem], by simp [go_sem], by simp [go_sem], by simp [go_sem], by simp [go_sem], by simp [go_sem], by simp [go_sem], by simp [go_sem], by simp [go_sem], by simp [go_sem], by simp [go_sem]⟩, (by simp only [ext_ext] at hP ⊢; exact hP), (by repeat' (first | (with_reducible exact Grows.refl _) | (with_reducible refine Grows.alloc ?_ _) | (with_reducible refine Grows.drew ?_) | (with_reducible refine Grows.ext ?_ _ _)))⟩ ?_
    clear hP
    rintro wo ⟨hS, hO, hP, hG⟩
    have hle2 : w.heap.size + 1 < B ∧ w.heap.size + 1 < C1 ∧ w.heap.size + 1 < C2 ∧ w.heap.size + 1 < C3 := by simp only [ext_size, World.size_alloc] at hle; omega
    have hne : w.heap.size + 1 ≠ w.heap.size := by omega
    have hle2s : w.heap.size < B ∧ w.heap.size < C1 ∧ w.heap.size < C2 ∧ w.heap.size < C3 := by omega
    clear hle
    have hle3 : w.heap.size < w.heap.size + 1 := by omega
    generalize hBo : w.heap.size + 1 = Bo at *
    generalize hBs : w.heap.size = Bs at *
    have hwo : w.heap.size ≤ Bo := by omega
    have hwo2 : w.heap.size ≤ Bs := by omega
    have hb : bl < w.heap.size := by omega
    clear hBo hBs
    go_loopw [20] (fun i wr' => ∃ (wv : World) (k : Nat) (x : Sty), wv = wr' ∧ k ≤ l.length ∧ i = .int .i64 k ∧ runS ⟨a, u, fk, fn, bk, bn, lk, ln⟩ l = runS x (l.drop k) ∧ StyAt wv Bs x.a x.u x.fk x.fn x.bk x.bn x.lk x.ln ∧ StyAt wv Bo 0 0 0 0 0 0 0 0 ∧ PensAt wv B C1 C2 C3 ∧ Grows w wv) (fun i _ => l.length - (intOf i).toNat)
    case atStart => exact ⟨_, 0, ⟨a, u, fk, fn, bk, bn, lk, ln⟩, rfl, by omega, rfl, rfl, hS, hO, hP, hG⟩
    case round =>
      clear hS hO hP hG
      obtain ⟨wv, k, x, rfl, hk, rfl, hrun, hS, hO, hP, hG⟩ := hrel
      have hS0 := hS
      have hO0 := hO
      obtain ⟨t0, j0, j1, j2, j3, j4, j5, j6, j7, g0, g1, g2, g3, g4, g5, g6, g7⟩ := hS
      obtain ⟨t1, i0, i1, i2, i3, i4, i5, i6, i7, o0, o1, o2, o3, o4, o5, o6, o7⟩ := hO
      have hP0 := hP
      obtain ⟨b0, b1, b2, b3, b4, b5⟩ := hP
      by_cases hkl : k < l.length
      · have hl1 : decide ((k : Int) < (l.length : Int)) = true := by simp; omega
        obtain ⟨p, hp⟩ : ∃ p, l[k]? = some p := ⟨l[k], by simp [hkl]⟩
        obtain ⟨him, z0, z1, z2, z3, z4, z5⟩ := Hc.out k p hp
        have s0 := (Grows.cell hG bl (off + k * 6) hb).1.trans z0
        have s1 := (Grows.cell hG bl (off + k * 6 + 1) hb).1.trans z1
        have s2 := (Grows.cell hG bl (off + k * 6 + 2) hb).1.trans z2
        have s3 := (Grows.cell hG bl (off + k * 6 + 3) hb).1.trans z3
        have s4 := (Grows.cell hG bl (off + k * 6 + 4) hb).1.trans z4
        have s5 := (Grows.cell hG bl (off + k * 6 + 5) hb).1.trans z5
        have hb0 := (Grows.cell hG bl 0 hb).2
        clear z0 z1 z2 z3 z4 z5
        have hcp := fun V => checkPen_any p.kd p.n p.m p.ck p.cn p.s him V
        unfold pnErr at hcp
        cases hv : okP p
        · have hv' : pnB p.kd p.n p.m p.ck p.cn p.s = false := hv
          simp only [hv', Bool.false_eq_true, if_false] at hcp
          have Hcp := Lib.hid hcp
          have HR := Lib.hid (run_stop hrun hp hv)
          clear hcp hv hv' hrun hp him
          go_wp2_with (go_at_call 28; (with_reducible refine (Hcp.out _).mono ?_); rintro e w' ⟨rfl, h3, d3, rfl⟩)
          (try simp only [Exit.inBlock, Exit.then])
          refine bodyPost_ret (by simp [results, Tryd.results18, go_sem, t1, i0, i1, i2, i3, i4, i5, i6, i7]; try rfl) rfl ?_
          refine ⟨?_, (by repeat' (first | (with_reducible exact hG) | (with_reducible refine Grows.setCell ?_ hwo2 _) | (with_reducible refine Grows.setCell ?_ hwo _) | (with_reducible exact Grows.refl _) | (with_reducible refine Grows.alloc ?_ _) | (with_reducible refine Grows.drew ?_) | (with_reducible refine Grows.ext ?_ _ _)))⟩
          rw [HV.out, HR.out]
          rfl
        · have hv' : pnB p.kd p.n p.m p.ck p.cn p.s = true := hv
          simp only [hv', if_true] at hcp
          have HR := Lib.hid (run_next hrun hp hv)
          have hn : 0 ≤ p.n ∧ p.n ≤ 6 := by
            unfold pnB at hv'
            simp only [Bool.and_eq_true, decide_eq_true_eq] at hv'
            exact hv'.2.2.1
          clear hv hv' hrun hp him
          obtain ⟨kd, n, m, ck, cn, s⟩ := p
          simp only at s0 s1 s2 s3 s4 s5 hcp hn
          have Hcp := Lib.hid hcp
          clear hcp
          have hlq : ∀ (o : Obj) (h : Array Obj) (d : Nat), (Instr.lookup 81 (.map (some B)) (.int .i64 n) false).run Tryd.prog (ext (wv.alloc o) h d) = .ok (findV (.agg #[.nilFunc, .bool false, .nilFunc]) n (penEs C1 C2 C3).toList).1 (ext (wv.alloc o) h d) := fun o h d => by
            have hq := hP0.grows (show Grows wv (ext (wv.alloc o) h d) from (by repeat' (first | (with_reducible exact Grows.refl _) | (with_reducible refine Grows.alloc ?_ _) | (with_reducible refine Grows.drew ?_) | (with_reducible refine Grows.ext ?_ _ _))))
            have := look67f (ext (wv.alloc o) h d) B n hq.2.1 (by rw [hq.2.2.1]; rfl)
            rw [hq.2.2.1] at this
            exact this
          have h7 : n = 0 ∨ n = 1 ∨ n = 2 ∨ n = 3 ∨ n = 4 ∨ n = 5 ∨ n = 6 := by omega
          clear hn
          rcases h7 with rfl | rfl | rfl | rfl | rfl | rfl | rfl
          · go_wp2_with (go_at_call 28; (with_reducible refine (Hcp.out _).mono ?_); rintro e w' ⟨rfl, h3, d3, rfl⟩)
            refine Calls.mono (make_reset _ _ _ _ _ _ _ _ _ _ _ _ _ _ _ _ (hS0.grows (by repeat' (first | (with_reducible exact Grows.refl _) | (with_reducible refine Grows.alloc ?_ _) | (with_reducible refine Grows.drew ?_) | (with_reducible refine Grows.ext ?_ _ _))))) ?_
            rintro e w' ⟨rfl, h4, d4, rfl⟩
            go_wp2_with fail
            go_roundw
            case rel => exact ⟨_, k + 1, _, rfl, by omega, by go_num, HR.out, StyAt.grows (hS0.setAll 0 0 0 0 0 0 0 0) (by repeat' (first | (with_reducible exact Grows.refl _) | (with_reducible refine Grows.alloc ?_ _) | (with_reducible refine Grows.drew ?_) | (with_reducible refine Grows.ext ?_ _ _))), StyAt.grows ((((((((hO0.other hne).other hne).other hne).other hne).other hne).other hne).other hne).other hne) (by repeat' (first | (with_reducible exact Grows.refl _) | (with_reducible refine Grows.alloc ?_ _) | (with_reducible refine Grows.drew ?_) | (with_reducible refine Grows.ext ?_ _ _))), PensAt.grows ((((((((hP0.set hle2s).set hle2s).set hle2s).set hle2s).set hle2s).set hle2s).set hle2s).set hle2s) (by repeat' (first | (with_reducible exact Grows.refl _) | (with_reducible refine Grows.alloc ?_ _) | (with_reducible refine Grows.drew ?_) | (with_reducible refine Grows.ext ?_ _ _))), (by repeat' (first | (with_reducible exact hG) | (with_reducible refine Grows.setCell ?_ hwo2 _) | (with_reducible refine Grows.setCell ?_ hwo _) | (with_reducible exact Grows.refl _) | (with_reducible refine Grows.alloc ?_ _) | (with_reducible refine Grows.drew ?_) | (with_reducible refine Grows.ext ?_ _ _)))⟩
            case measure => simp [intOf]; omega
          · go_wp2_with (go_at_call 28; (with_reducible refine (Hcp.out _).mono ?_); rintro e w' ⟨rfl, h3, d3, rfl⟩)
            refine Calls.mono (make_set _ _ _ _ _ _ _ _ _ _ _ _ _ _ _ _ (hS0.grows (by repeat' (first | (with_reducible exact Grows.refl _) | (with_reducible refine Grows.alloc ?_ _) | (with_reducible refine Grows.drew ?_) | (with_reducible refine Grows.ext ?_ _ _))))) ?_
            rintro e w' ⟨rfl, h4, d4, rfl⟩
            go_wp2_with fail
            go_roundw
            case rel => exact ⟨_, k + 1, _, rfl, by omega, by go_num, HR.out, StyAt.grows (hS0.setA (bits .or .i64 x.a m)) (by repeat' (first | (with_reducible exact Grows.refl _) | (with_reducible refine Grows.alloc ?_ _) | (with_reducible refine Grows.drew ?_) | (with_reducible refine Grows.ext ?_ _ _))), StyAt.grows (hO0.other hne) (by repeat' (first | (with_reducible exact Grows.refl _) | (with_reducible refine Grows.alloc ?_ _) | (with_reducible refine Grows.drew ?_) | (with_reducible refine Grows.ext ?_ _ _))), PensAt.grows (hP0.set hle2s) (by repeat' (first | (with_reducible exact Grows.refl _) | (with_reducible refine Grows.alloc ?_ _) | (with_reducible refine Grows.drew ?_) | (with_reducible refine Grows.ext ?_ _ _))), (by repeat' (first | (with_reducible exact hG) | (with_reducible refine Grows.setCell ?_ hwo2 _) | (with_reducible refine Grows.setCell ?_ hwo _) | (with_reducible exact Grows.refl _) | (with_reducible refine Grows.alloc ?_ _) | (with_reducible refine Grows.drew ?_) | (with_reducible refine Grows.ext ?_ _ _)))⟩
            case measure => simp [intOf]; omega
          · go_wp2_with (go_at_call 28; (with_reducible refine (Hcp.out _).mono ?_); rintro e w' ⟨rfl, h3, d3, rfl⟩)
            refine Calls.mono (make_clear _ _ _ _ _ _ _ _ _ _ _ _ _ _ _ _ (hS0.grows (by repeat' (first | (with_reducible exact Grows.refl _) | (with_reducible refine Grows.alloc ?_ _) | (with_reducible refine Grows.drew ?_) | (with_reducible refine Grows.ext ?_ _ _))))) ?_
            rintro e w' ⟨rfl, h4, d4, rfl⟩
            go_wp2_with fail
            go_roundw
            case rel => exact ⟨_, k + 1, _, rfl, by omega, by go_num, HR.out, StyAt.grows (hS0.setA (bits .andNot .i64 x.a m)) (by repeat' (first | (with_reducible exact Grows.refl _) | (with_reducible refine Grows.alloc ?_ _) | (with_reducible refine Grows.drew ?_) | (with_reducible refine Grows.ext ?_ _ _))), StyAt.grows (hO0.other hne) (by repeat' (first | (with_reducible exact Grows.refl _) | (with_reducible refine Grows.alloc ?_ _) | (with_reducible refine Grows.drew ?_) | (with_reducible refine Grows.ext ?_ _ _))), PensAt.grows (hP0.set hle2s) (by repeat' (first | (with_reducible exact Grows.refl _) | (with_reducible refine Grows.alloc ?_ _) | (with_reducible refine Grows.drew ?_) | (with_reducible refine Grows.ext ?_ _ _))), (by repeat' (first | (with_reducible exact hG) | (with_reducible refine Grows.setCell ?_ hwo2 _) | (with_reducible refine Grows.setCell ?_ hwo _) | (with_reducible exact Grows.refl _) | (with_reducible refine Grows.alloc ?_ _) | (with_reducible refine Grows.drew ?_) | (with_reducible refine Grows.ext ?_ _ _)))⟩
            case measure => simp [intOf]; omega
          · go_wp2_with (go_at_call 28; (with_reducible refine (Hcp.out _).mono ?_); rintro e w' ⟨rfl, h3, d3, rfl⟩)
            refine Calls.mono (make_under _ _ _ _ _ _ _ _ _ _ _ _ _ _ _ _ (hS0.grows (by repeat' (first | (with_reducible exact Grows.refl _) | (with_reducible refine Grows.alloc ?_ _) | (with_reducible refine Grows.drew ?_) | (with_reducible refine Grows.ext ?_ _ _))))) ?_
            rintro e w' ⟨rfl, h4, d4, rfl⟩
            go_wp2_with fail
            go_roundw
            case rel => exact ⟨_, k + 1, _, rfl, by omega, by go_num, HR.out, StyAt.grows (hS0.setU m) (by repeat' (first | (with_reducible exact Grows.refl _) | (with_reducible refine Grows.alloc ?_ _) | (with_reducible refine Grows.drew ?_) | (with_reducible refine Grows.ext ?_ _ _))), StyAt.grows (hO0.other hne) (by repeat' (first | (with_reducible exact Grows.refl _) | (with_reducible refine Grows.alloc ?_ _) | (with_reducible refine Grows.drew ?_) | (with_reducible refine Grows.ext ?_ _ _))), PensAt.grows (hP0.set hle2s) (by repeat' (first | (with_reducible exact Grows.refl _) | (with_reducible refine Grows.alloc ?_ _) | (with_reducible refine Grows.drew ?_) | (with_reducible refine Grows.ext ?_ _ _))), (by repeat' (first | (with_reducible exact hG) | (with_reducible refine Grows.setCell ?_ hwo2 _) | (with_reducible refine Grows.setCell ?_ hwo _) | (with_reducible exact Grows.refl _) | (with_reducible refine Grows.alloc ?_ _) | (with_reducible refine Grows.drew ?_) | (with_reducible refine Grows.ext ?_ _ _)))⟩
            case measure => simp [intOf]; omega
          · go_wp2_with (go_at_call 28; (with_reducible refine (Hcp.out _).mono ?_); rintro e w' ⟨rfl, h3, d3, rfl⟩)
            refine Calls.mono (make_col0 _ _ _ _ _ _ _ _ _ _ _ _ _ _ _ _ (hS0.grows (by repeat' (first | (with_reducible exact Grows.refl _) | (with_reducible refine Grows.alloc ?_ _) | (with_reducible refine Grows.drew ?_) | (with_reducible refine Grows.ext ?_ _ _)))) _ ((hP0.2.2.2.1).grows (by repeat' (first | (with_reducible exact Grows.refl _) | (with_reducible refine Grows.alloc ?_ _) | (with_reducible refine Grows.drew ?_) | (with_reducible refine Grows.ext ?_ _ _))))) ?_
            rintro e w' ⟨rfl, h4, d4, rfl⟩
            go_wp2_with fail
            go_roundw
            case rel => exact ⟨_, k + 1, _, rfl, by omega, by go_num, HR.out, StyAt.grows (hS0.setF ck cn) (by repeat' (first | (with_reducible exact Grows.refl _) | (with_reducible refine Grows.alloc ?_ _) | (with_reducible refine Grows.drew ?_) | (with_reducible refine Grows.ext ?_ _ _))), StyAt.grows ((hO0.other hne).other hne) (by repeat' (first | (with_reducible exact Grows.refl _) | (with_reducible refine Grows.alloc ?_ _) | (with_reducible refine Grows.drew ?_) | (with_reducible refine Grows.ext ?_ _ _))), PensAt.grows ((hP0.set hle2s).set hle2s) (by repeat' (first | (with_reducible exact Grows.refl _) | (with_reducible refine Grows.alloc ?_ _) | (with_reducible refine Grows.drew ?_) | (with_reducible refine Grows.ext ?_ _ _))), (by repeat' (first | (with_reducible exact hG) | (with_reducible refine Grows.setCell ?_ hwo2 _) | (with_reducible refine Grows.setCell ?_ hwo _) | (with_reducible exact Grows.refl _) | (with_reducible refine Grows.alloc ?_ _) | (with_reducible refine Grows.drew ?_) | (with_reducible refine Grows.ext ?_ _ _)))⟩
            case measure => simp [intOf]; omega
          · go_wp2_with (go_at_call 28; (with_reducible refine (Hcp.out _).mono ?_); rintro e w' ⟨rfl, h3, d3, rfl⟩)
            refine Calls.mono (make_col1 _ _ _ _ _ _ _ _ _ _ _ _ _ _ _ _ (hS0.grows (by repeat' (first | (with_reducible exact Grows.refl _) | (with_reducible refine Grows.alloc ?_ _) | (with_reducible refine Grows.drew ?_) | (with_reducible refine Grows.ext ?_ _ _)))) _ ((hP0.2.2.2.2.1).grows (by repeat' (first | (with_reducible exact Grows.refl _) | (with_reducible refine Grows.alloc ?_ _) | (with_reducible refine Grows.drew ?_) | (with_reducible refine Grows.ext ?_ _ _))))) ?_
            rintro e w' ⟨rfl, h4, d4, rfl⟩
            go_wp2_with fail
            go_roundw
            case rel => exact ⟨_, k + 1, _, rfl, by omega, by go_num, HR.out, StyAt.grows (hS0.setB ck cn) (by repeat' (first | (with_reducible exact Grows.refl _) | (with_reducible refine Grows.alloc ?_ _) | (with_reducible refine Grows.drew ?_) | (with_reducible refine Grows.ext ?_ _ _))), StyAt.grows ((hO0.other hne).other hne) (by repeat' (first | (with_reducible exact Grows.refl _) | (with_reducible refine Grows.alloc ?_ _) | (with_reducible refine Grows.drew ?_) | (with_reducible refine Grows.ext ?_ _ _))), PensAt.grows ((hP0.set hle2s).set hle2s) (by repeat' (first | (with_reducible exact Grows.refl _) | (with_reducible refine Grows.alloc ?_ _) | (with_reducible refine Grows.drew ?_) | (with_reducible refine Grows.ext ?_ _ _))), (by repeat' (first | (with_reducible exact hG) | (with_reducible refine Grows.setCell ?_ hwo2 _) | (with_reducible refine Grows.setCell ?_ hwo _) | (with_reducible exact Grows.refl _) | (with_reducible refine Grows.alloc ?_ _) | (with_reducible refine Grows.drew ?_) | (with_reducible refine Grows.ext ?_ _ _)))⟩
            case measure => simp [intOf]; omega
          · go_wp2_with (go_at_call 28; (with_reducible refine (Hcp.out _).mono ?_); rintro e w' ⟨rfl, h3, d3, rfl⟩)
            refine Calls.mono (make_col2 _ _ _ _ _ _ _ _ _ _ _ _ _ _ _ _ (hS0.grows (by repeat' (first | (with_reducible exact Grows.refl _) | (with_reducible refine Grows.alloc ?_ _) | (with_reducible refine Grows.drew ?_) | (with_reducible refine Grows.ext ?_ _ _)))) _ ((hP0.2.2.2.2.2).grows (by repeat' (first | (with_reducible exact Grows.refl _) | (with_reducible refine Grows.alloc ?_ _) | (with_reducible refine Grows.drew ?_) | (with_reducible refine Grows.ext ?_ _ _))))) ?_
            rintro e w' ⟨rfl, h4, d4, rfl⟩
            go_wp2_with fail
            go_roundw
            case rel => exact ⟨_, k + 1, _, rfl, by omega, by go_num, HR.out, StyAt.grows (hS0.setL ck cn) (by repeat' (first | (with_reducible exact Grows.refl _) | (with_reducible refine Grows.alloc ?_ _) | (with_reducible refine Grows.drew ?_) | (with_reducible refine Grows.ext ?_ _ _))), StyAt.grows ((hO0.other hne).other hne) (by repeat' (first | (with_reducible exact Grows.refl _) | (with_reducible refine Grows.alloc ?_ _) | (with_reducible refine Grows.drew ?_) | (with_reducible refine Grows.ext ?_ _ _))), PensAt.grows ((hP0.set hle2s).set hle2s) (by repeat' (first | (with_reducible exact Grows.refl _) | (with_reducible refine Grows.alloc ?_ _) | (with_reducible refine Grows.drew ?_) | (with_reducible refine Grows.ext ?_ _ _))), (by repeat' (first | (with_reducible exact hG) | (with_reducible refine Grows.setCell ?_ hwo2 _) | (with_reducible refine Grows.setCell ?_ hwo _) | (with_reducible exact Grows.refl _) | (with_reducible refine Grows.alloc ?_ _) | (with_reducible refine Grows.drew ?_) | (with_reducible refine Grows.ext ?_ _ _)))⟩
            case measure => simp [intOf]; omega
      · have hl1 : decide ((k : Int) < (l.length : Int)) = false := by simp; omega
        have HR := Lib.hid (run_done hrun (by omega))
        clear hrun
        go_wp2
        (try simp only [Exit.inBlock, Exit.then])
        refine bodyPost_ret (by simp [results, Tryd.results18, go_sem, i0, i1, i2, i3, i4, i5, i6, i7]; try rfl) rfl ?_
        refine ⟨?_, (by repeat' (first | (with_reducible exact hG) | (with_reducible refine Grows.setCell ?_ hwo2 _) | (with_reducible refine Grows.setCell ?_ hwo _) | (with_reducible exact Grows.refl _) | (with_reducible refine Grows.alloc ?_ _) | (with_reducible refine Grows.drew ?_) | (with_reducible refine Grows.ext ?_ _ _)))⟩
        rw [HV.out, HR.out]
        rfl
  · simp only [hE, if_true]
    go_enter Tryd.func18, Tryd.ntmps18
    go_wp2_with (go_at_call 33; (with_reducible refine (Hck.out _).mono ?_); rintro e w' ⟨rfl, h1, d1, rfl⟩)
    go_returns
    exact ⟨rfl, (by repeat' (first | (with_reducible exact Grows.refl _) | (with_reducible refine Grows.alloc ?_ _) | (with_reducible refine Grows.drew ?_) | (with_reducible refine Grows.ext ?_ _ _)))⟩
end Go.Proofs.YtobbphkfdhjmdaaDoor

namespace Go.Proofs.YtobbphkfdhjmdaaDoor
open Go.RowKit

def penS (p : Pen) : PenS := ⟨39, p.n, p.m, p.ck, p.cn, ⟨#[]⟩⟩
theorem pens_in {w : World} {a : Option Addr} {l : List Pen} (h : ActsIn w a (l.map actP)) (hok : ∀ p ∈ l, okPen p = true) (hl : l ≠ []) : ∃ bl off, a = some ⟨bl, off, none⟩ ∧ bl < w.heap.size ∧ PensIn w bl off (l.map penS) := by
  obtain ⟨bl, off, rfl, hb, hc⟩ := h (by simpa using hl)
  refine ⟨bl, off, rfl, hb, fun i p hp => ?_⟩
  rw [List.getElem?_map] at hp
  cases hq : l[i]? with
  | none => simp [hq] at hp
  | some q =>
    obtain rfl : penS q = p := by simpa [hq] using hp
    have hi := (List.getElem?_eq_some_iff.1 hq).1
    have hm := (List.getElem?_eq_some_iff.1 hq).2
    have c := hc i (by simpa using hi)
    have e : (l.map actP)[i]?.getD actD = actP q := by simp [hq]
    rw [e] at c
    obtain ⟨c0, c1, c2, c3, c4, c5⟩ := c
    exact ⟨(pn_ok (hok q (hm ▸ List.getElem_mem hi))).2, c0, c1, c2, c3, c4, c5⟩
end Go.Proofs.YtobbphkfdhjmdaaDoor

namespace Go.Proofs.YtobbphkfdhjmdaaDoor
open Go.RowKit

theorem elems_grows {w w' : World} {r : List (List Int)} {vs : List Value} (h : ElemsAt w r vs) (g : Grows w w') : ElemsAt w' r vs := ⟨h.1, fun i hi => by
  obtain ⟨s, h1, h2⟩ := h.2 i hi
  exact ⟨s, h1, h2.grows g⟩⟩
theorem elems_append {w : World} {r1 r2 : List (List Int)} {v1 v2 : List Value} (h1 : ElemsAt w r1 v1) (h2 : ElemsAt w r2 v2) : ElemsAt w (r1 ++ r2) (v1 ++ v2) := by
  refine ⟨by simp [h1.1, h2.1], fun i hi => ?_⟩
  by_cases hir : i < r1.length
  · obtain ⟨s, q1, q2⟩ := h1.2 i hir
    exact ⟨s, by rw [List.getElem?_append_left (by rw [h1.1]; exact hir)]; exact q1, by rw [List.getElem?_append_left hir]; exact q2⟩
  · obtain ⟨s, q1, q2⟩ := h2.2 (i - r1.length) (by simp at hi; omega)
    exact ⟨s, by rw [List.getElem?_append_right (by rw [h1.1]; omega), h1.1]; exact q1, by rw [List.getElem?_append_right (by omega)]; exact q2⟩
theorem elems_cells {w : World} {v : Value} {r : List (List Int)} {vs : List Value} {n : Nat} (hn : r.length = n) (h : ElemsAt w r vs) (hc : CellsAt 1 w v n vs) : RowAt w v r := by
  subst hn
  obtain ⟨-, a, c, rfl, hc, hin⟩ := hc
  refine ⟨a, c, rfl, hc, fun hne => ?_⟩
  obtain ⟨b, off, rfl, hb, hx⟩ := hin (by intro e; exact hne (List.length_eq_zero_iff.1 e))
  refine ⟨b, off, rfl, hb, fun i hi => ?_⟩
  obtain ⟨s, h1, h2⟩ := h.2 i hi
  exact ⟨s, hx i s h1, h2⟩
theorem row_vals {w : World} {v : Value} {r : List (List Int)} {n : Nat} (hn : r.length = n) (h : RowAt w v r) : ∃ vs, ElemsAt w r vs ∧ CellsAt 1 w v n vs ∧ ∀ u ∈ vs, u.oneCell' = true := by
  subst hn
  obtain ⟨a, c, rfl, hc, hin⟩ := h
  by_cases hne : r = []
  · subst hne
    exact ⟨[], ⟨rfl, fun i hi => by simp at hi⟩, ⟨rfl, a, c, rfl, hc, fun h => absurd rfl h⟩, by simp⟩
  · obtain ⟨b, off, rfl, hb, hx⟩ := hin hne
    obtain ⟨V, hV⟩ := Deep.choose_lt (n := r.length) (p := fun i s => w.cell? ⟨b, off + i, none⟩ = some s ∧ IntsAt w s (r[i]?.getD [])) hx
    refine ⟨(List.range r.length).map V, ⟨by simp, fun i hi => ⟨V i, by simp [hi], (hV i hi).2⟩⟩, ⟨by simp, _, c, rfl, hc, fun _ => ⟨b, off, rfl, hb, fun j u hj => ?_⟩⟩, fun u hu => ?_⟩
    · have hjl : j < r.length := by
        have := (List.getElem?_eq_some_iff.1 hj).1
        simpa using this
      have e : V j = u := by simpa [hjl] using hj
      rw [← e]
      exact (hV j hjl).1
    · obtain ⟨i, hi, rfl⟩ := List.mem_map.1 hu
      obtain ⟨a', c', e, -⟩ := (hV i (List.mem_range.1 hi)).2
      rw [e]
      rfl
theorem dst_shape2 {base : Nat} {e : TypeId} {size : Nat} {w : World} {v : Value} {n m : Nat} {xs ys : List Value} (h : DstAt base e size w v (0 + n + m) ([] ++ xs ++ ys)) : ∃ a c, v = .slice a (n + m) c ∧ CellsAt size w (.slice a (n + m) c) (n + m) (xs ++ ys) := by
  rw [Nat.zero_add, List.nil_append] at h
  have hc := h.cells
  obtain ⟨-, a, c, rfl, -, -⟩ := id hc
  exact ⟨a, c, rfl, hc⟩
theorem wpList_appW {P : Program} (w : World) {ops : Array Oper} {rest : List Oper} {o : Oper} {a : Act} {Q : Exit → Act → World → Prop} (hw : Region.wanted o (yielded ops a.tmps) = true) (s x : Operand) (t : TypeId)
    (hop : o.op = .call { callee := .builtin .append, args := #[s, x], argTypes := #[t, t] })
    (base : Nat) (e : TypeId) (i : TypeInfo) (z : Value) (size bytes : Nat) (h1 : P.underlying t = some (.slice e)) (h2 : P.info? e = some i) (h3 : i.zero = some z) (h4 : i.size = size) (h5 : i.bytes = bytes) (h6 : z.cells.size = size) (h7 : 0 < size)
    (n m : Nat) (xs ys : List Value) (hd : DstAt base e size w (a.eval s) n xs) (hs : CellsAt size w (a.eval x) m ys) (hone : ∀ u ∈ ys, u.oneCell' = true) (b1 : n + m ≤ maxLen) (b2 : (n + m) * bytes ≤ 140737488355328) (hb : base ≤ w.heap.size)
    (hK : ∀ v' w' row, DstAt base e size w' v' (n + m) (xs ++ ys) → w.grownBy w' row → (∀ k, row = some k → base ≤ k ∧ k < w.heap.size ∧ (a.eval s).ownBlock = some k) → (v'.ownBlock = (a.eval s).ownBlock ∨ ∃ k, w.heap.size ≤ k ∧ k < w'.heap.size ∧ v'.ownBlock = some k) → wpList P ops Q rest (a.put o.dst v') w') :
    wpList P ops Q (o :: rest) a w :=
  wpList_step fun K hK' => by rw [if_pos hw]; exact wp_app w s x t hop base e i z size bytes h1 h2 h3 h4 h5 h6 h7 n m xs ys hd hs hone b1 b2 hb fun v' w' row q1 q2 q3 q4 => hK' _ _ (hK v' w' row q1 q2 q3 q4)
theorem runV_form (x : Sty) (l : List PenS) : ∃ y er, runV x l = .tuple #[styV y, .int .i64 er] := by
  unfold runV
  split
  · exact ⟨_, _, rfl⟩
  · split
    · exact ⟨_, _, rfl⟩
    · exact ⟨_, _, rfl⟩
theorem pens_lenN {l : List Pen} {w : World} {v : Value} {N : Nat} (hn : l.length = N) (h : ActsAt w v (l.map actP)) : ∃ a cap, v = .slice a N cap := by
  subst hn
  exact pens_len h
theorem run_acts (a u fk fn bk bn lk ln : Int) (hi : In64 a) (l : List Pen) (hok : ∀ p ∈ l, okPen p = true) (hne : l ≠ []) (hl : l.length ≤ 1000) {ao : Option Addr} {c N : Nat} (hN : l.length = N) (w : World) (h : ActsAt w (.slice ao N c) (l.map actP)) :
    Calls Tryd.prog 18 #[.agg #[.int .i64 a, .int .i64 u, .int .i64 fk, .int .i64 fn, .int .i64 bk, .int .i64 bn, .int .i64 lk, .int .i64 ln], .slice ao N c] w (Ret (runV ⟨a, u, fk, fn, bk, bn, lk, ln⟩ (l.map penS)) w) := by
  subst hN
  obtain ⟨bl, off, rfl, hb, hp⟩ := pens_in (acts_in h) hok hne
  have := run_any a u fk fn bk bn lk ln hi (l.map penS) bl off c w (by simp; omega) hb hp
  rwa [List.length_map] at this
theorem sty8_grows {W W' : World} {n : Nat} {a0 a1 a2 a3 a4 a5 a6 a7 : Value} (hn : n < W.heap.size) (g : Grows W W') (h0 : W.cell? ⟨n, 0, none⟩ = some a0) (h1 : W.cell? ⟨n, 1, none⟩ = some a1) (h2 : W.cell? ⟨n, 2, none⟩ = some a2) (h3 : W.cell? ⟨n, 3, none⟩ = some a3) (h4 : W.cell? ⟨n, 4, none⟩ = some a4) (h5 : W.cell? ⟨n, 5, none⟩ = some a5) (h6 : W.cell? ⟨n, 6, none⟩ = some a6) (h7 : W.cell? ⟨n, 7, none⟩ = some a7) :
    W'.cell? ⟨n, 0, none⟩ = some a0 ∧ W'.cell? ⟨n, 1, none⟩ = some a1 ∧ W'.cell? ⟨n, 2, none⟩ = some a2 ∧ W'.cell? ⟨n, 3, none⟩ = some a3 ∧ W'.cell? ⟨n, 4, none⟩ = some a4 ∧ W'.cell? ⟨n, 5, none⟩ = some a5 ∧ W'.cell? ⟨n, 6, none⟩ = some a6 ∧ W'.cell? ⟨n, 7, none⟩ = some a7 :=
  ⟨(g.cellOf hn).trans h0, (g.cellOf hn).trans h1, (g.cellOf hn).trans h2, (g.cellOf hn).trans h3, (g.cellOf hn).trans h4, (g.cellOf hn).trans h5, (g.cellOf hn).trans h6, (g.cellOf hn).trans h7⟩
theorem abs_any {P : Program} {md : Region.Mode} {ops : Array Oper} {Q : Exit → Act → World → Prop} {S : World → Prop} {fuel : Nat} {listed : Array Bool} {a : Act} {w : World} (F : World → Prop) (hF : F w) (h : ∀ W, F W → wpAnyH P md ops Q S fuel listed a W) : wpAnyH P md ops Q S fuel listed a w := h w hF
theorem app_keep {W W' : World} {n base : Nat} {o : Obj} {v v' : Value} {row : Option Nat} (HR : W.heap[n]? = some o) (hne : ∀ k, v.ownBlock = some k → k ≠ n) (hg : W.grownBy W' row) (hrow : ∀ k, row = some k → base ≤ k ∧ k < W.heap.size ∧ v.ownBlock = some k) (hat : v'.ownBlock = v.ownBlock ∨ ∃ k, W.heap.size ≤ k ∧ k < W'.heap.size ∧ v'.ownBlock = some k) : W'.heap[n]? = some o ∧ ∀ k, v'.ownBlock = some k → k ≠ n := by
  have hn := (Array.getElem?_eq_some_iff.1 HR).1
  refine ⟨(hg.block n hn fun e => hne n (hrow n e.symm).2.2 rfl).trans HR, fun k hk => ?_⟩
  rcases hat with e | ⟨q, h1, h2, h3⟩
  · exact hne k (e.symm.trans hk)
  · rw [h3] at hk
    injection hk with hk
    omega
theorem app_lt {W W' : World} {v v' : Value} {row : Option Nat} (hl : ∀ k, v.ownBlock = some k → k < W.heap.size) (hg : W.grownBy W' row) (hat : v'.ownBlock = v.ownBlock ∨ ∃ k, W.heap.size ≤ k ∧ k < W'.heap.size ∧ v'.ownBlock = some k) : ∀ k, v'.ownBlock = some k → k < W'.heap.size := by
  intro k hk
  rcases hat with e | ⟨q, h1, h2, h3⟩
  · exact Nat.lt_of_lt_of_le (hl k (e.symm.trans hk)) hg.size
  · rw [h3] at hk
    injection hk with hk
    omega
theorem dst_shapeN {base : Nat} {e : TypeId} {size : Nat} {w : World} {v : Value} {n m N : Nat} {xs ys : List Value} (hN : n + m = N) (h : DstAt base e size w v (0 + n + m) ([] ++ xs ++ ys)) : ∃ a c, v = .slice a N c ∧ CellsAt size w (.slice a N c) N (xs ++ ys) := by
  subst hN
  exact dst_shape2 h
theorem info42 : (Tryd.prog.info? 42).map (·.size) = some 8 := by kernel_rfl
theorem actsC_append (l l' : List ActV) : actsC (l ++ l') = actsC l ++ actsC l' := by simp [actsC]
set_option maxRecDepth 100000 in
set_option maxHeartbeats 20000000 in
theorem apart_true (oa ob : Option Addr) (na nb capa capb : Nat) (sa su sfk sfn sbk sbn slk sln : Int) (hsa : In64 sa) (w : World) (_hca : na ≤ capa) (hna : na ≤ 9223372036854775807) (hda : DrfsIn w oa na) (_hcb : nb ≤ capb) (hnb : nb ≤ 9223372036854775807) (hdb : DrfsIn w ob nb) (hg : GL w) (ht : GT w) :
    Calls Tryd.prog 4 #[.slice oa na capa, .slice ob nb capb, .agg #[.int .i64 sa, .int .i64 su, .int .i64 sfk, .int .i64 sfn, .int .i64 sbk, .int .i64 sbn, .int .i64 slk, .int .i64 sln]] w (Ret (.bool true) w) := by
  obtain ⟨i0, hi, hz0, hz1, hz2⟩ := info_parts infoAct
  obtain ⟨j0, ji, jz0, jz1, jz2⟩ := info_parts infoPar
  have HD := Lib.hid hda
  have HE := Lib.hid hdb
  have HGL := Lib.hid hg
  have HGT := Lib.hid ht
  have HSA := Lib.hid hsa
  clear hda hdb hg ht hsa
  go_enter Tryd.func4, Tryd.ntmps4
  go_upto_region 3 with (first | (go_at_call 15; (with_reducible refine (works_true _ (HGL.out.grows ?hg1) (HGT.out.grows ?hg2)).mono ?hm1); (case hg1 => exact (by repeat' (first | (with_reducible exact Grows.refl _) | (with_reducible refine Grows.alloc ?_ _) | (with_reducible refine Grows.drew ?_) | (with_reducible refine Grows.ext ?_ _ _)))); (case hg2 => exact (by repeat' (first | (with_reducible exact Grows.refl _) | (with_reducible refine Grows.alloc ?_ _) | (with_reducible refine Grows.drew ?_) | (with_reducible refine Grows.ext ?_ _ _)))); rintro e w' ⟨rfl, h1, d1, rfl⟩))
  refine abs_worldM (fun W => Grows w W ∧ W.heap[w.heap.size]? = some (.cells #[.int .i64 sa, .int .i64 su, .int .i64 sfk, .int .i64 sfn, .int .i64 sbk, .int .i64 sbn, .int .i64 slk, .int .i64 sln] 42 (0, 0))) ⟨(by repeat' (first | (with_reducible exact Grows.refl _) | (with_reducible refine Grows.alloc ?_ _) | (with_reducible refine Grows.drew ?_) | (with_reducible refine Grows.ext ?_ _ _))), Grows.rowK (heap_alloc_new w _) (by repeat' (first | (with_reducible exact Grows.refl _) | (with_reducible refine Grows.drew ?_) | (with_reducible refine Grows.ext ?_ _ _)))⟩ ?_
  rintro W0 ⟨hG0, hZ0⟩
  have HZ0 := Lib.hid hZ0
  have HG0 := Lib.hid hG0
  have hs0 := hG0.size
  clear hZ0 hG0
  go_upto_block 0 with fail
  go_cut [7, 9] (fun x7 i9 wx => ∃ (wv : World) (ps : List Pen), wv = wx ∧ ps.length ≤ 8 ∧ Grows W0 wv ∧ (∀ p ∈ ps, okPen p = true) ∧ wv.ownsRow (W0.heap.size) 26 6 x7 ps.length (actsC (ps.map actP)))
  case first =>
    go_wp2_with fail
    go_loopw [7, 9] (fun x i wr' => ∃ (wv : World) (k : Nat) (ps : List Pen), wv = wr' ∧ k ≤ 8 ∧ k ≤ na ∧ i = .int .i64 k ∧ Grows W0 wv ∧ ps.length = k ∧ (∀ p ∈ ps, okPen p = true) ∧ wv.ownsRow (W0.heap.size) 26 6 x k (actsC (ps.map actP))) (fun _ i _ => 8 - (intOf i).toNat)
    case atStart => exact ⟨_, 0, [], rfl, Nat.zero_le _, Nat.zero_le _, rfl, Grows.refl _, rfl, by simp, World.ownsRow_nil _ _ _ _⟩
    case round =>
      obtain ⟨wb, k, ps, rfl, hk, hkl, rfl, hG, hps, hok, hO⟩ := hrel
      by_cases hlt : k < 8 ∧ k < na
      · obtain ⟨l1, l2⟩ := hlt
        have e1 : decide (k < na) = true := by simpa using l2
        have e2 : decide (k < 8) = true := by simpa using l1
        obtain ⟨bl, off, F, rfl, hbl, hF⟩ := (HD).out (by omega)
        obtain ⟨hFo, hFa⟩ := hF k l2
        obtain ⟨p, hp, hP⟩ := drf_pen hFo
        unfold actV at hP
        have HP := Lib.hid hP
        obtain ⟨t0, t1, t2, t3, t4, t5, t6, t7⟩ := hFa.grows (HG0.out.trans hG)
        have xb := Nat.lt_of_lt_of_le hbl (HG0.out.trans hG).size
        have HG := Lib.hid hG
        have HO := Lib.hid hO
        have hsz := hO.lt
        have hws := hG.size
        clear hF hFo hFa hP hG hO
        generalize F k = d at *
        obtain ⟨da, du, dw, dm, q0, q1, q2, q3⟩ := d
        dsimp only at t0 t1 t2 t3 t4 t5 t6 t7 HP
        obtain ⟨pn, pm, pck, pcn⟩ := p
        dsimp only at HP
        go_wp2_with (first | (go_at_call 16; (with_reducible refine (HP.out _).mono ?_); rintro e w' ⟨rfl, h3, d3, rfl⟩) | (at_builtin; refine wpList_append_own _ rfl (.tmp 35) (.tmp 41) 33 rfl (W0.heap.size) 26 i0 _ 6 56 Tryd.underlying33 hi hz0 hz1 hz2 rfl (by decide) _ _ _ rfl ((owns_grows HO.out (by repeat' (first | (with_reducible exact Grows.refl _) | (with_reducible refine Grows.alloc ?_ _) | (with_reducible refine Grows.drew ?_) | (with_reducible refine Grows.ext ?_ _ _)))).alloc _) ⟨wb.heap.size + h3.size, 0, none⟩ 1 1 [.int .i64 39, .int .i64 pn, .int .i64 pm, .int .i64 pck, .int .i64 pcn, .string ⟨#[]⟩] rfl rfl (cells_at6 (by simp)) (by simp [Value.oneCell']) (by unfold maxLen; omega) (by omega) (by simp; omega) ?_; intro v2 w1 hown' hgrow _))
        have hO2 : w1.ownsRow (W0.heap.size) 26 6 v2 (k + 1) (actsC ((ps ++ [(⟨pn, pm, pck, pcn⟩ : Pen)]).map actP)) := by
          rw [List.map_append, List.map_singleton, actsC_snoc]
          exact hown'
        have hG2 : Grows W0 w1 := Grows.appended (HG.out.trans (by repeat' (first | (with_reducible exact Grows.refl _) | (with_reducible refine Grows.alloc ?_ _) | (with_reducible refine Grows.drew ?_) | (with_reducible refine Grows.ext ?_ _ _)))) hgrow (fun q e => by have := (hsz q e).1; omega)
        go_roundw
        case rel =>
          refine ⟨_, k + 1, ps ++ [(⟨pn, pm, pck, pcn⟩ : Pen)], rfl, by omega, by omega, by go_num, hG2, by simp [hps], fun q hq => ?_, hO2⟩
          rcases List.mem_append.1 hq with hq | hq
          · exact hok q hq
          · obtain rfl : q = ⟨pn, pm, pck, pcn⟩ := by simpa using hq
            exact hp
        case measure => simp [intOf]; omega
      · by_cases l2 : k < na
        · have e1 : decide (k < na) = true := by simpa using l2
          have e2 : decide ((k : Int) < 8) = false := by rw [decide_eq_false_iff_not]; omega
          clear hlt
          go_wp2_with fail
          go_meet
          case rel => exact ⟨_, ps, rfl, by omega, hG, hok, by rw [hps]; exact hO⟩
        · have e1 : decide (k < na) = false := by simpa using l2
          clear hlt
          go_wp2_with fail
          go_meet
          case rel => exact ⟨_, ps, rfl, by omega, hG, hok, by rw [hps]; exact hO⟩
  case rest =>
    obtain ⟨W1, ps, e1, hpl, hG1, hokp, hOx⟩ := hcut
    subst e1
    have HGa := Lib.hid (HG0.out.trans hG1)
    have HOX := Lib.hid hOx
    have HOKP := Lib.hid hokp
    have HG1 := Lib.hid hG1
    clear hG1 hokp hOx
    go_upto_block 2 with fail
    go_cut [8, 10] (fun x8 i10 wx => ∃ (wv : World) (ps : List Pen), wv = wx ∧ ps.length ≤ 8 ∧ Grows W1 wv ∧ (∀ p ∈ ps, okPen p = true) ∧ wv.ownsRow (W1.heap.size) 26 6 x8 ps.length (actsC (ps.map actP)))
    case first =>
      go_wp2_with fail
      go_loopw [8, 10] (fun x i wr' => ∃ (wv : World) (k : Nat) (ps : List Pen), wv = wr' ∧ k ≤ 8 ∧ k ≤ nb ∧ i = .int .i64 k ∧ Grows W1 wv ∧ ps.length = k ∧ (∀ p ∈ ps, okPen p = true) ∧ wv.ownsRow (W1.heap.size) 26 6 x k (actsC (ps.map actP))) (fun _ i _ => 8 - (intOf i).toNat)
      case atStart => exact ⟨_, 0, [], rfl, Nat.zero_le _, Nat.zero_le _, rfl, Grows.refl _, rfl, by simp, World.ownsRow_nil _ _ _ _⟩
      case round =>
        obtain ⟨wb, k, ps, rfl, hk, hkl, rfl, hG, hps, hok, hO⟩ := hrel
        by_cases hlt : k < 8 ∧ k < nb
        · obtain ⟨l1, l2⟩ := hlt
          have e1 : decide (k < nb) = true := by simpa using l2
          have e2 : decide (k < 8) = true := by simpa using l1
          obtain ⟨bl, off, F, rfl, hbl, hF⟩ := (HE).out (by omega)
          obtain ⟨hFo, hFa⟩ := hF k l2
          obtain ⟨p, hp, hP⟩ := drf_pen hFo
          unfold actV at hP
          have HP := Lib.hid hP
          obtain ⟨t0, t1, t2, t3, t4, t5, t6, t7⟩ := hFa.grows (HGa.out.trans hG)
          have xb := Nat.lt_of_lt_of_le hbl (HGa.out.trans hG).size
          have HG := Lib.hid hG
          have HO := Lib.hid hO
          have hsz := hO.lt
          have hws := hG.size
          clear hF hFo hFa hP hG hO
          generalize F k = d at *
          obtain ⟨da, du, dw, dm, q0, q1, q2, q3⟩ := d
          dsimp only at t0 t1 t2 t3 t4 t5 t6 t7 HP
          obtain ⟨pn, pm, pck, pcn⟩ := p
          dsimp only at HP
          go_wp2_with (first | (go_at_call 16; (with_reducible refine (HP.out _).mono ?_); rintro e w' ⟨rfl, h3, d3, rfl⟩) | (at_builtin; refine wpList_append_own _ rfl (.tmp 53) (.tmp 59) 33 rfl (W1.heap.size) 26 i0 _ 6 56 Tryd.underlying33 hi hz0 hz1 hz2 rfl (by decide) _ _ _ rfl ((owns_grows HO.out (by repeat' (first | (with_reducible exact Grows.refl _) | (with_reducible refine Grows.alloc ?_ _) | (with_reducible refine Grows.drew ?_) | (with_reducible refine Grows.ext ?_ _ _)))).alloc _) ⟨wb.heap.size + h3.size, 0, none⟩ 1 1 [.int .i64 39, .int .i64 pn, .int .i64 pm, .int .i64 pck, .int .i64 pcn, .string ⟨#[]⟩] rfl rfl (cells_at6 (by simp)) (by simp [Value.oneCell']) (by unfold maxLen; omega) (by omega) (by simp; omega) ?_; intro v2 w1 hown' hgrow _))
          have hO2 : w1.ownsRow (W1.heap.size) 26 6 v2 (k + 1) (actsC ((ps ++ [(⟨pn, pm, pck, pcn⟩ : Pen)]).map actP)) := by
            rw [List.map_append, List.map_singleton, actsC_snoc]
            exact hown'
          have hG2 : Grows W1 w1 := Grows.appended (HG.out.trans (by repeat' (first | (with_reducible exact Grows.refl _) | (with_reducible refine Grows.alloc ?_ _) | (with_reducible refine Grows.drew ?_) | (with_reducible refine Grows.ext ?_ _ _)))) hgrow (fun q e => by have := (hsz q e).1; omega)
          go_roundw
          case rel =>
            refine ⟨_, k + 1, ps ++ [(⟨pn, pm, pck, pcn⟩ : Pen)], rfl, by omega, by omega, by go_num, hG2, by simp [hps], fun q hq => ?_, hO2⟩
            rcases List.mem_append.1 hq with hq | hq
            · exact hok q hq
            · obtain rfl : q = ⟨pn, pm, pck, pcn⟩ := by simpa using hq
              exact hp
          case measure => simp [intOf]; omega
        · by_cases l2 : k < nb
          · have e1 : decide (k < nb) = true := by simpa using l2
            have e2 : decide ((k : Int) < 8) = false := by rw [decide_eq_false_iff_not]; omega
            clear hlt
            go_wp2_with fail
            go_meet
            case rel => exact ⟨_, ps, rfl, by omega, hG, hok, by rw [hps]; exact hO⟩
          · have e1 : decide (k < nb) = false := by simpa using l2
            clear hlt
            go_wp2_with fail
            go_meet
            case rel => exact ⟨_, ps, rfl, by omega, hG, hok, by rw [hps]; exact hO⟩
    case rest =>
      obtain ⟨W2, qs, e2, hql, hG2, hokq, hOy⟩ := hcut
      subst e2
      have hX : ActsAt W2 _ (ps.map actP) := (OwnA.at_ (base := W0.heap.size) (by unfold OwnA; rw [List.length_map]; exact HOX.out)).grows hG2
      have hY : ActsAt W2 _ (qs.map actP) := OwnA.at_ (base := W1.heap.size) (by unfold OwnA; rw [List.length_map]; exact hOy)
      obtain ⟨a5, c5, hx5⟩ := pens_len hX
      obtain ⟨a6, c6, hx6⟩ := pens_len hY
      subst hx5 hx6
      have HX := Lib.hid hX
      have HY := Lib.hid hY
      have HW := Lib.hid (HGa.out.trans hG2)
      have HZ := Lib.hid (Grows.rowK HZ0.out (HG1.out.trans hG2))
      have HP1 := Lib.hid (params_ok _ ps W2 hX HOKP.out (by omega) (HGL.out.grows HW.out))
      have HP2 := Lib.hid fun W (g : Grows W2 W) => params_ok _ qs W (hY.grows g) hokq (by omega) (HGL.out.grows (HW.out.trans g))
      have hok : ∀ p ∈ ps ++ qs, okPen p = true := fun p hp => (List.mem_append.1 hp).elim (HOKP.out p) (hokq p)
      have HOK := Lib.hid hok
      have HP3 := Lib.hid fun v W (h : ActsAt W v ((ps ++ qs).map actP)) (g : Grows W2 W) => params_ok v (ps ++ qs) W h hok (by simp; omega) (HGL.out.grows (HW.out.trans g))
      clear hX hY hG2 hokq hOy hok HOX HOKP HG1
      go_upto_region 15 with (first | (go_at_call 13; (with_reducible refine HP1.out.mono ?_); rintro e w3 ⟨x3, rfl, hx3, hg3⟩; obtain ⟨a3, c3, rfl⟩ := row_len hx3) | (go_at_call 13; (with_reducible refine (HP2.out w3 hg3).mono ?_); rintro e w4 ⟨x4, rfl, hx4, hg4⟩; obtain ⟨a4, c4, rfl⟩ := row_len hx4) | (at_builtin; refine wpList_app _ rfl (.tmp 72) (.tmp 73) 33 rfl w4.heap.size 26 i0 _ 6 56 Tryd.underlying33 hi hz0 hz1 hz2 rfl (by decide) 0 ps.length [] (actsC (ps.map actP)) (DstAt.none_ _ _ _ _ _) (acts_cellsn (by simp) (HX.out.grows ((hg3.trans hg4).alloc _))) actsC_one (by unfold maxLen; omega) (by omega) (by simp) ?_; intro v5 w5 row5 hD5 hgrow5 hrow5 _; have hg5 : Grows W2 w5 := appended_grows ((hg3.trans hg4).alloc _) hgrow5 (fun k e => Nat.le_trans (hg3.trans hg4).size (hrow5 k e).1); have hs5 := hgrow5.size) | (at_builtin; refine wpList_app _ rfl (.tmp 74) (.tmp 75) 33 rfl w4.heap.size 26 i0 _ 6 56 Tryd.underlying33 hi hz0 hz1 hz2 rfl (by decide) (0 + ps.length) qs.length ([] ++ actsC (ps.map actP)) (actsC (qs.map actP)) hD5 (acts_cellsn (by simp) (HY.out.grows hg5)) actsC_one (by unfold maxLen; omega) (by omega) (by simp at hs5; omega) ?_; intro v6 w6 row6 hD6 hgrow6 hrow6 _; have hg6 : Grows W2 w6 := appended_grows hg5 hgrow6 (fun k e => Nat.le_trans (hg3.trans hg4).size (hrow6 k e).1); obtain ⟨a7, c7, rfl, hC7⟩ := dst_shape2 hD6; have hA7 : ActsAt w6 (.slice a7 (ps.length + qs.length) c7) ((ps ++ qs).map actP) := cells_acts (n := ps.length + qs.length) (by simp) (by rw [List.map_append, actsC_append]; exact hC7)) | (go_at_call 13; (with_reducible refine (HP3.out _ w6 hA7 hg6).mono ?_); rintro e w7 ⟨x7, rfl, hx7, hg7⟩; obtain ⟨a8, c8, rfl⟩ := row_len hx7))
      have hg45 : Grows w4 w5 := appended_grows ((Grows.refl w4).alloc _) hgrow5 (fun k e => (hrow5 k e).1)
      have hg46 : Grows w4 w6 := appended_grows hg45 hgrow6 (fun k e => (hrow6 k e).1)
      have hg47 : Grows w4 w7 := hg46.trans hg7
      have hgw7 : Grows W2 w7 := hg3.trans (hg4.trans hg47)
      obtain ⟨vs1, hv1, hc1, ho1⟩ := row_vals (n := ps.length) (by simp) (hx3.grows (hg4.trans hg47))
      obtain ⟨vs2, hv2, hc2, ho2⟩ := row_vals (n := qs.length) (by simp) (hx4.grows hg47)
      have HV := Lib.hid (And.intro hv1 hv2)
      have HC := Lib.hid (And.intro hc1 hc2)
      have HO := Lib.hid (And.intro ho1 ho2)
      have HX7 := Lib.hid (HX.out.grows hgw7)
      have HY7 := Lib.hid (HY.out.grows hgw7)
      have HZ7 := Lib.hid (Grows.rowK HZ.out hgw7)
      have HW7 := Lib.hid (HW.out.trans hgw7)
      have HB := Lib.hid hx7
      have hmap : (ps ++ qs).map toldP = ps.map toldP ++ qs.map toldP := by simp
      have HS := Lib.hid fun x y W (hx : RowAt W x ((ps ++ qs).map toldP)) (hy : RowAt W y ((ps ++ qs).map toldP)) => same05 x y ((ps ++ qs).map toldP) W (by simp; omega) (fun p hp => by
        obtain ⟨q, hq, rfl⟩ := List.mem_map.1 hp
        have := (okPart_iff.1 (told_okPart (HOK.out q hq))).2.1
        omega) hx hy
      have HM := Lib.hid hmap
      simp only [List.length_map, List.length_append] at HC HB
      clear hx3 hx4 hx7 hv1 hv2 hc1 hc2 ho1 ho2 hmap hg3 hg4 hg5 hg6 hg7 hg45 hg46 hg47 hgw7 hD5 hD6 hgrow5 hgrow6 hrow5 hrow6 hs5 hC7 hA7 HX HY HW HZ HP1 HP2 HP3 HGa hs0 HZ0 HG0
      go_upto_region 17 with (first | (at_builtin; (refine wpList_appW _ (by first | rfl | simp [Region.wanted, yielded]) (.tmp 92) (.tmp 93) 29 rfl w7.heap.size 38 j0 (.agg #[.slice none 0 0]) 1 24 Tryd.underlying29 ji jz0 jz1 jz2 rfl (by decide) 0 ps.length [] vs1 (DstAt.none_ _ _ _ _ _) (HC.out.1.grows ((Grows.refl w7).alloc _)) HO.out.1 (by unfold maxLen; omega) (by omega) (by simp) ?_; intro v8 w8 row8 hD8 hgrow8 hrow8 _; have hg8 : Grows w7 w8 := appended_grows ((Grows.refl w7).alloc _) hgrow8 (fun k e => (hrow8 k e).1); have hs8 := hgrow8.size)) | (at_builtin; (refine wpList_appW _ (by first | rfl | simp [Region.wanted, yielded]) (.tmp 94) (.tmp 95) 29 rfl w7.heap.size 38 j0 (.agg #[.slice none 0 0]) 1 24 Tryd.underlying29 ji jz0 jz1 jz2 rfl (by decide) (0 + ps.length) qs.length ([] ++ vs1) vs2 hD8 (HC.out.2.grows hg8) HO.out.2 (by unfold maxLen; omega) (by omega) (by simp at hs8; omega) ?_; intro v9 w9 row9 hD9 hgrow9 hrow9 _; have hg9 : Grows w7 w9 := appended_grows hg8 hgrow9 (fun k e => (hrow9 k e).1); obtain ⟨a9, c9, rfl, hC9⟩ := dst_shape2 hD9; have hR9 : RowAt w9 (.slice a9 (ps.length + qs.length) c9) ((ps ++ qs).map toldP) := by rw [HM.out]; exact elems_cells (n := ps.length + qs.length) (by simp) (elems_append (elems_grows HV.out.1 hg9) (elems_grows HV.out.2 hg9)) hC9)) | (go_at_call 17; (with_reducible refine (HS.out _ _ w9 (HB.out.grows hg9) hR9).mono ?_); rintro e w' ⟨rfl, h10, d10, rfl⟩))
      refine abs_worldM (fun W => Grows w7 W) (hg9.ext _ _) ?_
      rintro V hGV
      have hB := HB.out.grows hGV
      have HXv := Lib.hid (HX7.out.grows hGV)
      have HYv := Lib.hid (HY7.out.grows hGV)
      have HZv := Lib.hid (Grows.rowK HZ7.out hGV)
      have HWv := Lib.hid (HW7.out.trans hGV)
      have hNN : (ps ++ qs).length = ps.length + qs.length := by simp
      have hsm := okRow_iff.1 (told_okRow HOK.out (by omega))
      have hpl2 : ∀ p ∈ (ps ++ qs).map toldP, p.length ≤ 100000 := fun p hp => by have := (okPart_iff.1 (hsm.2.2 p hp)).2.1; omega
      have HN := Lib.hid (sgrPens_any _ ((ps ++ qs).map toldP) (by simp; omega) hpl2 V hB (HGL.out.grows HWv.out))
      have hpe : pensErr ((ps ++ qs).map toldP) = 0 := by simp only [pensErr, told_okRow HOK.out (by omega), if_true]
      rw [hpe] at HN
      clear hpl2 hsm hpe hB hGV hD8 hD9 hgrow8 hgrow9 hrow8 hrow9 hs8 hg8 hg9 hC9 hR9 HS HB HX7 HY7 HZ7 HW7 HV HC HO HM
      by_cases hne : ps ++ qs = []
      · obtain ⟨rfl, rfl⟩ := List.append_eq_nil_iff.1 hne
        have hpo : pensOf (([] ++ [] : List Pen).map toldP) = [pen 0 0] := by decide
        rw [hpo] at HN
        clear hne hNN hpo HXv HYv HOK
        simp only [List.length_nil, Nat.add_zero] at HN ⊢
        go_wp2_with (first | (go_at_call 14; (with_reducible refine HN.out.mono ?_); rintro e w10 ⟨x10, rfl, hx10, hg10⟩; obtain ⟨a10, c10, rfl⟩ := pens_len hx10))
        go_ret
        exact ⟨rfl, HWv.out.trans hg10⟩
      · have hpo : pensOf ((ps ++ qs).map toldP) = ps ++ qs := pensOf_told HOK.out hne (by omega)
        rw [hpo] at HN
        clear hpo
        have hpos : 0 < ps.length + qs.length := by
          rw [← hNN]
          exact List.length_pos_iff.2 hne
        obtain ⟨L, hL⟩ : ∃ L, L = ps ++ qs := ⟨_, rfl⟩
        rw [← hL] at HN hNN hne HOK
        have hcat : actsC (ps.map actP) ++ actsC (qs.map actP) = actsC (L.map actP) := by rw [hL, List.map_append, actsC_append]
        have HCAT := Lib.hid hcat
        obtain ⟨y, er, hV⟩ := runV_form ⟨sa, su, sfk, sfn, sbk, sbn, slk, sln⟩ (L.map penS)
        have HRUN := Lib.hid fun (a : Option Addr) (c : Nat) W (h : ActsAt W (.slice a (ps.length + qs.length) c) (L.map actP)) => run_acts sa su sfk sfn sbk sbn slk sln HSA.out L HOK.out hne (by omega) hNN W h
        rw [hV] at HRUN
        obtain ⟨y0, y1, y2, y3, y4, y5, y6, y7⟩ := y
        unfold styV at HRUN
        dsimp only at HRUN
        have e0 : ((((ps.length + qs.length : Nat) : Int)) == 0) = false := by simp; omega
        have HNE := Lib.hid (And.intro hne hNN)
        have HPQ := Lib.hid (show ps.length + qs.length ≤ 16 by omega)
        clear hV hcat hL hne hNN
        generalize hNq : ps.length + qs.length = N at *
        go_upto_region 21 with (first | (go_at_call 14; (with_reducible refine HN.out.mono ?_); rintro e w10 ⟨x10, rfl, hx10, hg10⟩; obtain ⟨a10, c10, rfl⟩ := pens_lenN HNE.out.2 hx10; have hz := Grows.rowK HZv.out hg10; have z0 := (cell_of_row w10 w.heap.size 0 _ 42 (0, 0) hz).trans (show _ = some (.int .i64 sa) from rfl); have z1 := (cell_of_row w10 w.heap.size 1 _ 42 (0, 0) hz).trans (show _ = some (.int .i64 su) from rfl); have z2 := (cell_of_row w10 w.heap.size 2 _ 42 (0, 0) hz).trans (show _ = some (.int .i64 sfk) from rfl); have z3 := (cell_of_row w10 w.heap.size 3 _ 42 (0, 0) hz).trans (show _ = some (.int .i64 sfn) from rfl); have z4 := (cell_of_row w10 w.heap.size 4 _ 42 (0, 0) hz).trans (show _ = some (.int .i64 sbk) from rfl); have z5 := (cell_of_row w10 w.heap.size 5 _ 42 (0, 0) hz).trans (show _ = some (.int .i64 sbn) from rfl); have z6 := (cell_of_row w10 w.heap.size 6 _ 42 (0, 0) hz).trans (show _ = some (.int .i64 slk) from rfl); have z7 := (cell_of_row w10 w.heap.size 7 _ 42 (0, 0) hz).trans (show _ = some (.int .i64 sln) from rfl); have hzs := (Array.getElem?_eq_some_iff.1 hz).1) | (go_at_call 18; (with_reducible refine (HRUN.out _ _ w10 hx10).mono ?_); rintro e w11 ⟨rfl, hg11⟩))
        have HXw := Lib.hid (HXv.out.grows (hg10.trans hg11))
        have HYw := Lib.hid (HYv.out.grows (hg10.trans hg11))
        have HWw := Lib.hid (HWv.out.trans (hg10.trans hg11))
        have HZw := Lib.hid (Grows.rowK hz hg11)
        refine abs_worldM (fun W => Grows w11 W ∧ W.heap[w11.heap.size]? = some (.cells #[.int .i64 y0, .int .i64 y1, .int .i64 y2, .int .i64 y3, .int .i64 y4, .int .i64 y5, .int .i64 y6, .int .i64 y7] 42 (0, 0))) ⟨(by repeat' (first | (with_reducible exact Grows.refl _) | (with_reducible refine Grows.alloc ?_ _) | (with_reducible refine Grows.drew ?_) | (with_reducible refine Grows.ext ?_ _ _))), heap_alloc_new w11 _⟩ ?_
        clear z0 z1 z2 z3 z4 z5 z6 z7 hz hzs
        rintro V0 ⟨hg12, hR19⟩
        have HX0 := Lib.hid (HXw.out.grows hg12)
        have HY0 := Lib.hid (HYw.out.grows hg12)
        have HW0 := Lib.hid (HWw.out.trans hg12)
        have hz0' := Grows.rowK HZw.out hg12
        have hn0 : w.heap.size < V0.heap.size := (Array.getElem?_eq_some_iff.1 hz0').1
        have hn19 : w11.heap.size < V0.heap.size := (Array.getElem?_eq_some_iff.1 hR19).1
        have z0 := (cell_of_row V0 w.heap.size 0 _ 42 (0, 0) hz0').trans (show _ = some (.int .i64 sa) from rfl)
        have z1 := (cell_of_row V0 w.heap.size 1 _ 42 (0, 0) hz0').trans (show _ = some (.int .i64 su) from rfl)
        have z2 := (cell_of_row V0 w.heap.size 2 _ 42 (0, 0) hz0').trans (show _ = some (.int .i64 sfk) from rfl)
        have z3 := (cell_of_row V0 w.heap.size 3 _ 42 (0, 0) hz0').trans (show _ = some (.int .i64 sfn) from rfl)
        have z4 := (cell_of_row V0 w.heap.size 4 _ 42 (0, 0) hz0').trans (show _ = some (.int .i64 sbk) from rfl)
        have z5 := (cell_of_row V0 w.heap.size 5 _ 42 (0, 0) hz0').trans (show _ = some (.int .i64 sbn) from rfl)
        have z6 := (cell_of_row V0 w.heap.size 6 _ 42 (0, 0) hz0').trans (show _ = some (.int .i64 slk) from rfl)
        have z7 := (cell_of_row V0 w.heap.size 7 _ 42 (0, 0) hz0').trans (show _ = some (.int .i64 sln) from rfl)
        have HR19 := Lib.hid hR19
        have HSC := Lib.hid fun W (g : Grows V0 W) => sty8_grows hn0 g z0 z1 z2 z3 z4 z5 z6 z7
        clear hR19 hg12 hz0' hx10 hg10 hg11 HXv HYv HWv HZv HXw HYw HWw HZw HN
        generalize w11.heap.size = n19 at *
        generalize w.heap.size = n0 at *
        refine wp_region_held_drew (S := fun w' => w'.cell? ⟨n0, 0, none⟩ = some (.int .i64 sa) ∧ w'.cell? ⟨n0, 1, none⟩ = some (.int .i64 su) ∧ w'.cell? ⟨n0, 2, none⟩ = some (.int .i64 sfk) ∧ w'.cell? ⟨n0, 3, none⟩ = some (.int .i64 sfn) ∧ w'.cell? ⟨n0, 4, none⟩ = some (.int .i64 sbk) ∧ w'.cell? ⟨n0, 5, none⟩ = some (.int .i64 sbn) ∧ w'.cell? ⟨n0, 6, none⟩ = some (.int .i64 slk) ∧ w'.cell? ⟨n0, 7, none⟩ = some (.int .i64 sln)) (by kernel_rfl) ?_ (fun hHeld => ?_)
        · exact HSC.out _ (by repeat' (first | (with_reducible exact Grows.refl _) | (with_reducible refine Grows.drew ?_)))
        refine abs_any (fun X => Grows V0 X) (by repeat' (first | (with_reducible exact Grows.refl _) | (with_reducible refine Grows.drew ?_))) ?_
        clear hHeld
        rintro X0 hgv0
        have hHeld := HSC.out X0 hgv0
        refine wpAnyH_take (i := 0) (v := ?vt1_0) rfl (by kernel_rfl) (by kernel_rfl) (by kernel_rfl) (fun _ _ _ h => h) (Or.inl ⟨by kernel_rfl, ?yt1_0⟩) (by assumption) ?rt1_0
        case yt1_0 => ((intro w hSw; (try dsimp only at hSw); go_simp); (try with_reducible rfl))
        try simp only [Act.put, List.getElem_toArray, List.getElem_cons_zero, List.setIfInBounds_toArray, List.set_cons_zero, List.set_cons_succ]
        refine wpAnyH_take (i := 2) (v := ?vt2_2) rfl (by kernel_rfl) (by kernel_rfl) (by kernel_rfl) (fun _ _ _ h => h) (Or.inl ⟨by kernel_rfl, ?yt2_2⟩) (by assumption) ?rt2_2
        case yt2_2 => ((intro w hSw; (try dsimp only at hSw); go_simp); (try with_reducible rfl))
        try simp only [Act.put, List.getElem_toArray, List.getElem_cons_succ, List.getElem_cons_zero, List.setIfInBounds_toArray, List.set_cons_zero, List.set_cons_succ]
        refine wpAnyH_take (i := 4) (v := ?vt3_4) rfl (by kernel_rfl) (by kernel_rfl) (by kernel_rfl) (fun _ _ _ h => h) (Or.inl ⟨by kernel_rfl, ?yt3_4⟩) (by assumption) ?rt3_4
        case yt3_4 => ((intro w hSw; (try dsimp only at hSw); go_simp); (try with_reducible rfl))
        try simp only [Act.put, List.getElem_toArray, List.getElem_cons_succ, List.getElem_cons_zero, List.setIfInBounds_toArray, List.set_cons_zero, List.set_cons_succ]
        refine wpAnyH_ready (rs := [1, 10]) (by kernel_rfl) (by simp) ?_
        refine AllReadyH.cons rfl (fun K hK => ?_) ?_
        · simp only [List.getElem_toArray, List.getElem_cons_succ, List.getElem_cons_zero]
          go_simp
          refine hK.out _ _ ?_ ?_
          · exact HSC.out _ (by repeat' (first | (with_reducible exact hgv0) | (with_reducible refine Grows.alloc ?_ _) | (with_reducible refine Grows.drew ?_) | (with_reducible refine Grows.ext ?_ _ _)))
          clear hK K
          intro _
          try simp only [Act.put, List.getElem_toArray, List.getElem_cons_succ, List.getElem_cons_zero, List.setIfInBounds_toArray, List.set_cons_zero, List.set_cons_succ]
          refine abs_any (fun X4 => Grows V0 X4 ∧ (∀ k, (Value.slice (some ⟨X0.heap.size, 0, none⟩) 0 0).ownBlock = some k → k < X4.heap.size)) ⟨(by repeat' (first | (with_reducible exact hgv0) | (with_reducible refine Grows.alloc ?_ _) | (with_reducible refine Grows.drew ?_) | (with_reducible refine Grows.ext ?_ _ _))), (fun k e => by injection e with e; subst e; simp [World.size_alloc])⟩ ?_
          rintro X4 ⟨hgv4, hdl4⟩
          have hHeld4 := HSC.out X4 hgv4
          have hD4 := DstAt.none_ V0.heap.size 26 6 X4 (some ⟨X0.heap.size, 0, none⟩)
          refine wpAnyH_ready (rs := [3, 10]) (by kernel_rfl) (by simp) ?_
          refine AllReadyH.cons rfl (fun K hK => ?_) ?_
          · simp only [List.getElem_toArray, List.getElem_cons_succ, List.getElem_cons_zero]
            rw [if_pos (by kernel_rfl)]
            refine wp_app _ (.tmp 123) (.tmp 124) 33 rfl V0.heap.size 26 i0 _ 6 56 Tryd.underlying33 hi hz0 hz1 hz2 rfl (by decide) 0 ps.length [] (actsC (ps.map actP)) hD4 (acts_cellsn (by simp) (HX0.out.grows hgv4)) actsC_one (by unfold maxLen; omega) (by omega) hgv4.size ?_
            intro v5 w5_ row5 q1 q2 q3 q4
            have hgv5 : Grows V0 w5_ := appended_grows hgv4 q2 (fun k e => (q3 k e).1)
            have hdl5 := app_lt (v := Value.slice (some ⟨X0.heap.size, 0, none⟩) 0 0) hdl4 q2 q4
            refine hK.out _ _ ?_ ?_
            · exact HSC.out _ hgv5
            clear hK K
            intro hHeld5
            try simp only [Act.put, List.setIfInBounds_toArray, List.set_cons_zero, List.set_cons_succ]
            have hD5 := q1
            clear q1 q2 q3 q4
            refine wpAnyH_ready (rs := [5, 10]) (by kernel_rfl) (by simp) ?_
            refine AllReadyH.cons rfl (fun K hK => ?_) ?_
            · simp only [List.getElem_toArray, List.getElem_cons_succ, List.getElem_cons_zero]
              rw [if_pos (by kernel_rfl)]
              refine wp_app _ (.tmp 125) (.tmp 126) 33 rfl V0.heap.size 26 i0 _ 6 56 Tryd.underlying33 hi hz0 hz1 hz2 rfl (by decide) (0 + ps.length) qs.length ([] ++ actsC (ps.map actP)) (actsC (qs.map actP)) hD5 (acts_cellsn (by simp) (HY0.out.grows hgv5)) actsC_one (by unfold maxLen; omega) (by omega) hgv5.size ?_
              intro v6 w6_ row6 q1 q2 q3 q4
              have hgv6 : Grows V0 w6_ := appended_grows hgv5 q2 (fun k e => (q3 k e).1)
              have hdl6 := app_lt (v := v5) hdl5 q2 q4
              obtain ⟨a15, c15, rfl, hC15⟩ := dst_shapeN hNq q1
              have hA6 : ActsAt w6_ (.slice a15 N c15) (L.map actP) := cells_acts (n := N) (by rw [List.length_map]; exact HNE.out.2) (by rw [← HCAT.out]; exact hC15)
              refine hK.out _ _ ?_ ?_
              · exact HSC.out _ hgv6
              clear hK K
              intro hHeld6
              try simp only [Act.put, List.setIfInBounds_toArray, List.set_cons_zero, List.set_cons_succ]
              clear q1 q2 q3 q4
              refine wpAnyH_ready (rs := [6, 10]) (by kernel_rfl) (by simp) ?_
              refine AllReadyH.cons rfl (fun K hK => ?_) ?_
              · simp only [List.getElem_toArray, List.getElem_cons_succ, List.getElem_cons_zero]
                go_simp
                (go_at_call 18; (with_reducible refine (HRUN.out _ _ _ hA6).mono ?_); rintro e w7_ ⟨rfl, hg7_⟩)
                have hgv7 : Grows V0 w7_ := hgv6.trans hg7_
                refine hK.out _ _ ?_ ?_
                · exact HSC.out _ hgv7
                clear hK K
                intro hHeld7
                try simp only [Act.put, List.getElem_toArray, List.getElem_cons_succ, List.getElem_cons_zero, List.setIfInBounds_toArray, List.set_cons_zero, List.set_cons_succ]
                refine wpAnyH_take (i := 7) (v := ?vt8_7) rfl (by kernel_rfl) (by kernel_rfl) (by kernel_rfl) (fun _ _ _ h => h) (Or.inl ⟨by kernel_rfl, ?yt8_7⟩) (by assumption) ?rt8_7
                case yt8_7 => ((intro w hSw; (try dsimp only at hSw); go_simp); (try with_reducible rfl))
                try simp only [Act.put, List.getElem_toArray, List.getElem_cons_succ, List.getElem_cons_zero, List.setIfInBounds_toArray, List.set_cons_zero, List.set_cons_succ]
                refine wpAnyH_take (i := 8) (v := ?vt9_8) rfl (by kernel_rfl) (by kernel_rfl) (by kernel_rfl) (fun _ _ _ h => h) (Or.inl ⟨by kernel_rfl, ?yt9_8⟩) (by assumption) ?rt9_8
                case yt9_8 => ((intro w hSw; (try dsimp only at hSw); go_simp); (try with_reducible rfl))
                try simp only [Act.put, List.getElem_toArray, List.getElem_cons_succ, List.getElem_cons_zero, List.setIfInBounds_toArray, List.set_cons_zero, List.set_cons_succ]
                refine wpAnyH_take (i := 9) (v := ?vt10_9) rfl (by kernel_rfl) (by kernel_rfl) (by kernel_rfl) (fun _ _ _ h => h) (Or.inl ⟨by kernel_rfl, ?yt10_9⟩) (by assumption) ?rt10_9
                case yt10_9 => ((intro w hSw; (try dsimp only at hSw); go_simp); (try with_reducible rfl))
                try simp only [Act.put, List.getElem_toArray, List.getElem_cons_succ, List.getElem_cons_zero, List.setIfInBounds_toArray, List.set_cons_zero, List.set_cons_succ]
                refine wpAnyH_ready (rs := [10]) (by kernel_rfl) (by simp) ?_
                refine AllReadyH.cons rfl (fun K hK => ?_) ?_
                · simp only [List.getElem_toArray, List.getElem_cons_succ, List.getElem_cons_zero]
                  go_simp
                  refine hK.out _ _ ?_ ?_
                  · exact HSC.out _ (by repeat' (first | (with_reducible exact hgv7) | (with_reducible refine Grows.alloc ?_ _) | (with_reducible refine Grows.drew ?_) | (with_reducible refine Grows.ext ?_ _ _)))
                  clear hK K
                  intro _
                  try simp only [Act.put, List.getElem_toArray, List.getElem_cons_succ, List.getElem_cons_zero, List.setIfInBounds_toArray, List.set_cons_zero, List.set_cons_succ]
                  refine abs_any (fun X11 => Grows V0 X11 ∧ X11.heap[w7_.heap.size]? = some (.cells #[.int .i64 0, .int .i64 0, .int .i64 0, .int .i64 0, .int .i64 0, .int .i64 0, .int .i64 0, .int .i64 0] 42 (0, 0))) ⟨(by repeat' (first | (with_reducible exact hgv7) | (with_reducible refine Grows.alloc ?_ _) | (with_reducible refine Grows.drew ?_) | (with_reducible refine Grows.ext ?_ _ _))), heap_alloc_new w7_ _⟩ ?_
                  rintro X11 ⟨hgv11, HR11⟩
                  have hHeld11 := HSC.out X11 hgv11
                  have hnb11 : V0.heap.size ≤ w7_.heap.size := hgv7.size
                  refine wpAnyH_ready (rs := [11]) (by kernel_rfl) (by simp) ?_
                  refine AllReadyH.cons rfl (fun K hK => ?_) AllReadyH.nil
                  simp only [List.getElem_toArray, List.getElem_cons_succ, List.getElem_cons_zero]
                  rw [if_pos (by kernel_rfl)]
                  have hgs12 : Grows V0 (X11.setRow (w7_.heap.size) #[.int .i64 y0, .int .i64 y1, .int .i64 y2, .int .i64 y3, .int .i64 y4, .int .i64 y5, .int .i64 y6, .int .i64 y7]) := hgv11.setRowK hnb11 _
                  have hrs12 := setRow_heap X11 (w7_.heap.size) _ #[.int .i64 y0, .int .i64 y1, .int .i64 y2, .int .i64 y3, .int .i64 y4, .int .i64 y5, .int .i64 y6, .int .i64 y7] 42 (0, 0) HR11
                  refine wp_store_row 42 (.tmp 21) (.tmp 129) rfl (w7_.heap.size) #[.int .i64 y0, .int .i64 y1, .int .i64 y2, .int .i64 y3, .int .i64 y4, .int .i64 y5, .int .i64 y6, .int .i64 y7] rfl rfl 42 #[.int .i64 0, .int .i64 0, .int .i64 0, .int .i64 0, .int .i64 0, .int .i64 0, .int .i64 0, .int .i64 0] HR11 info42 rfl (by simp [Value.oneCell']) ?_
                  refine hK.out _ _ ?_ ?_
                  · exact HSC.out _ hgs12
                  clear hK K
                  intro hHeld12
                  try simp only [Act.put]
                  refine wpAnyH_take (i := 12) (v := ?vt13_12) rfl (by kernel_rfl) (by kernel_rfl) (by kernel_rfl) (fun _ _ _ h => h) (Or.inl ⟨by kernel_rfl, ?yt13_12⟩) (by assumption) ?rt13_12
                  case yt13_12 => ((intro w hSw; (try dsimp only at hSw); go_simp); (try with_reducible rfl))
                  try simp only [Act.put, List.getElem_toArray, List.getElem_cons_succ, List.getElem_cons_zero, List.setIfInBounds_toArray, List.set_cons_zero, List.set_cons_succ]
                  refine wpAnyH_done (by kernel_rfl) ?_ _
                  go_upto_region 22 with fail
                  refine abs_worldM (fun X => Grows V0 X ∧ X.heap[n19]? = some (.cells #[.int .i64 y0, .int .i64 y1, .int .i64 y2, .int .i64 y3, .int .i64 y4, .int .i64 y5, .int .i64 y6, .int .i64 y7] 42 (0, 0)) ∧ X.heap[w7_.heap.size]? = some (.cells #[.int .i64 y0, .int .i64 y1, .int .i64 y2, .int .i64 y3, .int .i64 y4, .int .i64 y5, .int .i64 y6, .int .i64 y7] 42 (0, 0))) ⟨(by repeat' (first | (with_reducible exact hgs12) | (with_reducible refine Grows.alloc ?_ _) | (with_reducible refine Grows.drew ?_) | (with_reducible refine Grows.ext ?_ _ _))), Grows.rowK HR19.out (by repeat' (first | (with_reducible exact hgs12) | (with_reducible refine Grows.alloc ?_ _) | (with_reducible refine Grows.drew ?_) | (with_reducible refine Grows.ext ?_ _ _))), Grows.rowK hrs12 (by repeat' (first | (with_reducible exact Grows.refl _) | (with_reducible refine Grows.alloc ?_ _) | (with_reducible refine Grows.drew ?_)))⟩ ?_
                  generalize w7_.heap.size = n21 at *
                  rintro X ⟨hgX, hr19, hr21⟩
                  have p0 := (cell_of_row X n19 0 _ 42 (0, 0) hr19).trans (show _ = some (.int .i64 y0) from rfl)
                  have p1 := (cell_of_row X n19 1 _ 42 (0, 0) hr19).trans (show _ = some (.int .i64 y1) from rfl)
                  have p2 := (cell_of_row X n19 2 _ 42 (0, 0) hr19).trans (show _ = some (.int .i64 y2) from rfl)
                  have p3 := (cell_of_row X n19 3 _ 42 (0, 0) hr19).trans (show _ = some (.int .i64 y3) from rfl)
                  have p4 := (cell_of_row X n19 4 _ 42 (0, 0) hr19).trans (show _ = some (.int .i64 y4) from rfl)
                  have p5 := (cell_of_row X n19 5 _ 42 (0, 0) hr19).trans (show _ = some (.int .i64 y5) from rfl)
                  have p6 := (cell_of_row X n19 6 _ 42 (0, 0) hr19).trans (show _ = some (.int .i64 y6) from rfl)
                  have p7 := (cell_of_row X n19 7 _ 42 (0, 0) hr19).trans (show _ = some (.int .i64 y7) from rfl)
                  have q0_ := (cell_of_row X n21 0 _ 42 (0, 0) hr21).trans (show _ = some (.int .i64 y0) from rfl)
                  have q1_ := (cell_of_row X n21 1 _ 42 (0, 0) hr21).trans (show _ = some (.int .i64 y1) from rfl)
                  have q2_ := (cell_of_row X n21 2 _ 42 (0, 0) hr21).trans (show _ = some (.int .i64 y2) from rfl)
                  have q3_ := (cell_of_row X n21 3 _ 42 (0, 0) hr21).trans (show _ = some (.int .i64 y3) from rfl)
                  have q4_ := (cell_of_row X n21 4 _ 42 (0, 0) hr21).trans (show _ = some (.int .i64 y4) from rfl)
                  have q5_ := (cell_of_row X n21 5 _ 42 (0, 0) hr21).trans (show _ = some (.int .i64 y5) from rfl)
                  have q6_ := (cell_of_row X n21 6 _ 42 (0, 0) hr21).trans (show _ = some (.int .i64 y6) from rfl)
                  have q7_ := (cell_of_row X n21 7 _ 42 (0, 0) hr21).trans (show _ = some (.int .i64 y7) from rfl)
                  have hs19 := (Array.getElem?_eq_some_iff.1 hr19).1
                  have hs21 := (Array.getElem?_eq_some_iff.1 hr21).1
                  clear hr19 hr21
                  go_wp2_with fail
                  go_ret
                  exact ⟨rfl, HW0.out.trans hgX⟩
                exact AllReadyH.nil
              refine AllReadyH.cons rfl (fun K hK => ?_) ?_
              · simp only [List.getElem_toArray, List.getElem_cons_succ, List.getElem_cons_zero]
                go_simp
                refine hK.out _ _ ?_ ?_
                · exact HSC.out _ (by repeat' (first | (with_reducible exact hgv6) | (with_reducible refine Grows.alloc ?_ _) | (with_reducible refine Grows.drew ?_) | (with_reducible refine Grows.ext ?_ _ _)))
                clear hK K
                intro _
                try simp only [Act.put, List.getElem_toArray, List.getElem_cons_succ, List.getElem_cons_zero, List.setIfInBounds_toArray, List.set_cons_zero, List.set_cons_succ]
                refine abs_any (fun X14 => Grows V0 X14 ∧ ActsAt X14 (.slice a15 N c15) (L.map actP) ∧ X14.heap[w6_.heap.size]? = some (.cells #[.int .i64 0, .int .i64 0, .int .i64 0, .int .i64 0, .int .i64 0, .int .i64 0, .int .i64 0, .int .i64 0] 42 (0, 0))) ⟨(by repeat' (first | (with_reducible exact hgv6) | (with_reducible refine Grows.alloc ?_ _) | (with_reducible refine Grows.drew ?_) | (with_reducible refine Grows.ext ?_ _ _))), hA6.grows (by repeat' (first | (with_reducible exact Grows.refl _) | (with_reducible refine Grows.alloc ?_ _) | (with_reducible refine Grows.drew ?_))), heap_alloc_new w6_ _⟩ ?_
                rintro X14 ⟨hgv14, hA14, HR14⟩
                have hHeld14 := HSC.out X14 hgv14
                have hnb14 : V0.heap.size ≤ w6_.heap.size := hgv6.size
                refine wpAnyH_ready (rs := [6]) (by kernel_rfl) (by simp) ?_
                refine AllReadyH.cons rfl (fun K hK => ?_) ?_
                · simp only [List.getElem_toArray, List.getElem_cons_succ, List.getElem_cons_zero]
                  go_simp
                  (go_at_call 18; (with_reducible refine (HRUN.out _ _ _ hA14).mono ?_); rintro e w15_ ⟨rfl, hg15_⟩)
                  have hgv15 : Grows V0 w15_ := hgv14.trans hg15_
                  have HR15 := Grows.rowK HR14 hg15_
                  refine hK.out _ _ ?_ ?_
                  · exact HSC.out _ hgv15
                  clear hK K
                  intro hHeld15
                  try simp only [Act.put, List.getElem_toArray, List.getElem_cons_succ, List.getElem_cons_zero, List.setIfInBounds_toArray, List.set_cons_zero, List.set_cons_succ]
                  refine wpAnyH_take (i := 7) (v := ?vt16_7) rfl (by kernel_rfl) (by kernel_rfl) (by kernel_rfl) (fun _ _ _ h => h) (Or.inl ⟨by kernel_rfl, ?yt16_7⟩) (by assumption) ?rt16_7
                  case yt16_7 => ((intro w hSw; (try dsimp only at hSw); go_simp); (try with_reducible rfl))
                  try simp only [Act.put, List.getElem_toArray, List.getElem_cons_succ, List.getElem_cons_zero, List.setIfInBounds_toArray, List.set_cons_zero, List.set_cons_succ]
                  refine wpAnyH_take (i := 8) (v := ?vt17_8) rfl (by kernel_rfl) (by kernel_rfl) (by kernel_rfl) (fun _ _ _ h => h) (Or.inl ⟨by kernel_rfl, ?yt17_8⟩) (by assumption) ?rt17_8
                  case yt17_8 => ((intro w hSw; (try dsimp only at hSw); go_simp); (try with_reducible rfl))
                  try simp only [Act.put, List.getElem_toArray, List.getElem_cons_succ, List.getElem_cons_zero, List.setIfInBounds_toArray, List.set_cons_zero, List.set_cons_succ]
                  refine wpAnyH_take (i := 9) (v := ?vt18_9) rfl (by kernel_rfl) (by kernel_rfl) (by kernel_rfl) (fun _ _ _ h => h) (Or.inl ⟨by kernel_rfl, ?yt18_9⟩) (by assumption) ?rt18_9
                  case yt18_9 => ((intro w hSw; (try dsimp only at hSw); go_simp); (try with_reducible rfl))
                  try simp only [Act.put, List.getElem_toArray, List.getElem_cons_succ, List.getElem_cons_zero, List.setIfInBounds_toArray, List.set_cons_zero, List.set_cons_succ]
                  refine wpAnyH_ready (rs := [11]) (by kernel_rfl) (by simp) ?_
                  refine AllReadyH.cons rfl (fun K hK => ?_) ?_
                  · simp only [List.getElem_toArray, List.getElem_cons_succ, List.getElem_cons_zero]
                    rw [if_pos (by kernel_rfl)]
                    have hgs19 : Grows V0 (w15_.setRow (w6_.heap.size) #[.int .i64 y0, .int .i64 y1, .int .i64 y2, .int .i64 y3, .int .i64 y4, .int .i64 y5, .int .i64 y6, .int .i64 y7]) := hgv15.setRowK hnb14 _
                    have hrs19 := setRow_heap w15_ (w6_.heap.size) _ #[.int .i64 y0, .int .i64 y1, .int .i64 y2, .int .i64 y3, .int .i64 y4, .int .i64 y5, .int .i64 y6, .int .i64 y7] 42 (0, 0) HR15
                    refine wp_store_row 42 (.tmp 21) (.tmp 129) rfl (w6_.heap.size) #[.int .i64 y0, .int .i64 y1, .int .i64 y2, .int .i64 y3, .int .i64 y4, .int .i64 y5, .int .i64 y6, .int .i64 y7] rfl rfl 42 #[.int .i64 0, .int .i64 0, .int .i64 0, .int .i64 0, .int .i64 0, .int .i64 0, .int .i64 0, .int .i64 0] HR15 info42 rfl (by simp [Value.oneCell']) ?_
                    refine hK.out _ _ ?_ ?_
                    · exact HSC.out _ hgs19
                    clear hK K
                    intro hHeld19
                    try simp only [Act.put]
                    refine wpAnyH_take (i := 12) (v := ?vt20_12) rfl (by kernel_rfl) (by kernel_rfl) (by kernel_rfl) (fun _ _ _ h => h) (Or.inl ⟨by kernel_rfl, ?yt20_12⟩) (by assumption) ?rt20_12
                    case yt20_12 => ((intro w hSw; (try dsimp only at hSw); go_simp); (try with_reducible rfl))
                    try simp only [Act.put, List.getElem_toArray, List.getElem_cons_succ, List.getElem_cons_zero, List.setIfInBounds_toArray, List.set_cons_zero, List.set_cons_succ]
                    refine wpAnyH_done (by kernel_rfl) ?_ _
                    go_upto_region 22 with fail
                    refine abs_worldM (fun X => Grows V0 X ∧ X.heap[n19]? = some (.cells #[.int .i64 y0, .int .i64 y1, .int .i64 y2, .int .i64 y3, .int .i64 y4, .int .i64 y5, .int .i64 y6, .int .i64 y7] 42 (0, 0)) ∧ X.heap[w6_.heap.size]? = some (.cells #[.int .i64 y0, .int .i64 y1, .int .i64 y2, .int .i64 y3, .int .i64 y4, .int .i64 y5, .int .i64 y6, .int .i64 y7] 42 (0, 0))) ⟨(by repeat' (first | (with_reducible exact hgs19) | (with_reducible refine Grows.alloc ?_ _) | (with_reducible refine Grows.drew ?_) | (with_reducible refine Grows.ext ?_ _ _))), Grows.rowK HR19.out (by repeat' (first | (with_reducible exact hgs19) | (with_reducible refine Grows.alloc ?_ _) | (with_reducible refine Grows.drew ?_) | (with_reducible refine Grows.ext ?_ _ _))), Grows.rowK hrs19 (by repeat' (first | (with_reducible exact Grows.refl _) | (with_reducible refine Grows.alloc ?_ _) | (with_reducible refine Grows.drew ?_)))⟩ ?_
                    generalize w6_.heap.size = n21 at *
                    rintro X ⟨hgX, hr19, hr21⟩
                    have p0 := (cell_of_row X n19 0 _ 42 (0, 0) hr19).trans (show _ = some (.int .i64 y0) from rfl)
                    have p1 := (cell_of_row X n19 1 _ 42 (0, 0) hr19).trans (show _ = some (.int .i64 y1) from rfl)
                    have p2 := (cell_of_row X n19 2 _ 42 (0, 0) hr19).trans (show _ = some (.int .i64 y2) from rfl)
                    have p3 := (cell_of_row X n19 3 _ 42 (0, 0) hr19).trans (show _ = some (.int .i64 y3) from rfl)
                    have p4 := (cell_of_row X n19 4 _ 42 (0, 0) hr19).trans (show _ = some (.int .i64 y4) from rfl)
                    have p5 := (cell_of_row X n19 5 _ 42 (0, 0) hr19).trans (show _ = some (.int .i64 y5) from rfl)
                    have p6 := (cell_of_row X n19 6 _ 42 (0, 0) hr19).trans (show _ = some (.int .i64 y6) from rfl)
                    have p7 := (cell_of_row X n19 7 _ 42 (0, 0) hr19).trans (show _ = some (.int .i64 y7) from rfl)
                    have q0_ := (cell_of_row X n21 0 _ 42 (0, 0) hr21).trans (show _ = some (.int .i64 y0) from rfl)
                    have q1_ := (cell_of_row X n21 1 _ 42 (0, 0) hr21).trans (show _ = some (.int .i64 y1) from rfl)
                    have q2_ := (cell_of_row X n21 2 _ 42 (0, 0) hr21).trans (show _ = some (.int .i64 y2) from rfl)
                    have q3_ := (cell_of_row X n21 3 _ 42 (0, 0) hr21).trans (show _ = some (.int .i64 y3) from rfl)
                    have q4_ := (cell_of_row X n21 4 _ 42 (0, 0) hr21).trans (show _ = some (.int .i64 y4) from rfl)
                    have q5_ := (cell_of_row X n21 5 _ 42 (0, 0) hr21).trans (show _ = some (.int .i64 y5) from rfl)
                    have q6_ := (cell_of_row X n21 6 _ 42 (0, 0) hr21).trans (show _ = some (.int .i64 y6) from rfl)
                    have q7_ := (cell_of_row X n21 7 _ 42 (0, 0) hr21).trans (show _ = some (.int .i64 y7) from rfl)
                    have hs19 := (Array.getElem?_eq_some_iff.1 hr19).1
                    have hs21 := (Array.getElem?_eq_some_iff.1 hr21).1
                    clear hr19 hr21
                    go_wp2_with fail
                    go_ret
                    exact ⟨rfl, HW0.out.trans hgX⟩
                  exact AllReadyH.nil
                exact AllReadyH.nil
              exact AllReadyH.nil
            refine AllReadyH.cons rfl (fun K hK => ?_) ?_
            · simp only [List.getElem_toArray, List.getElem_cons_succ, List.getElem_cons_zero]
              go_simp
              refine hK.out _ _ ?_ ?_
              · exact HSC.out _ (by repeat' (first | (with_reducible exact hgv5) | (with_reducible refine Grows.alloc ?_ _) | (with_reducible refine Grows.drew ?_) | (with_reducible refine Grows.ext ?_ _ _)))
              clear hK K
              intro _
              try simp only [Act.put, List.getElem_toArray, List.getElem_cons_succ, List.getElem_cons_zero, List.setIfInBounds_toArray, List.set_cons_zero, List.set_cons_succ]
              refine abs_any (fun X21 => Grows V0 X21 ∧ DstAt V0.heap.size 26 6 X21 (v5) (0 + ps.length) ([] ++ actsC (ps.map actP)) ∧ (∀ k, (v5).ownBlock = some k → k < X21.heap.size) ∧ X21.heap[w5_.heap.size]? = some (.cells #[.int .i64 0, .int .i64 0, .int .i64 0, .int .i64 0, .int .i64 0, .int .i64 0, .int .i64 0, .int .i64 0] 42 (0, 0))) ⟨(by repeat' (first | (with_reducible exact hgv5) | (with_reducible refine Grows.alloc ?_ _) | (with_reducible refine Grows.drew ?_) | (with_reducible refine Grows.ext ?_ _ _))), hD5.grows (by repeat' (first | (with_reducible exact Grows.refl _) | (with_reducible refine Grows.alloc ?_ _) | (with_reducible refine Grows.drew ?_))), (fun k e => Nat.lt_of_lt_of_le (hdl5 k e) (Grows.size (by repeat' (first | (with_reducible exact Grows.refl _) | (with_reducible refine Grows.alloc ?_ _) | (with_reducible refine Grows.drew ?_))))), heap_alloc_new w5_ _⟩ ?_
              rintro X21 ⟨hgv21, hD21, hdl21, HR21⟩
              have hHeld21 := HSC.out X21 hgv21
              have hnb21 : V0.heap.size ≤ w5_.heap.size := hgv5.size
              have hne21 : ∀ k, (v5).ownBlock = some k → k ≠ w5_.heap.size := fun k e => Nat.ne_of_lt (hdl5 k e)
              refine wpAnyH_ready (rs := [5]) (by kernel_rfl) (by simp) ?_
              refine AllReadyH.cons rfl (fun K hK => ?_) ?_
              · simp only [List.getElem_toArray, List.getElem_cons_succ, List.getElem_cons_zero]
                rw [if_pos (by kernel_rfl)]
                refine wp_app _ (.tmp 125) (.tmp 126) 33 rfl V0.heap.size 26 i0 _ 6 56 Tryd.underlying33 hi hz0 hz1 hz2 rfl (by decide) (0 + ps.length) qs.length ([] ++ actsC (ps.map actP)) (actsC (qs.map actP)) hD21 (acts_cellsn (by simp) (HY0.out.grows hgv21)) actsC_one (by unfold maxLen; omega) (by omega) hgv21.size ?_
                intro v22 w22_ row22 q1 q2 q3 q4
                have hgv22 : Grows V0 w22_ := appended_grows hgv21 q2 (fun k e => (q3 k e).1)
                have hdl22 := app_lt (v := v5) hdl21 q2 q4
                obtain ⟨HR22, hne22⟩ := app_keep (v := v5) HR21 hne21 q2 q3 q4
                obtain ⟨a15, c15, rfl, hC15⟩ := dst_shapeN hNq q1
                have hA22 : ActsAt w22_ (.slice a15 N c15) (L.map actP) := cells_acts (n := N) (by rw [List.length_map]; exact HNE.out.2) (by rw [← HCAT.out]; exact hC15)
                refine hK.out _ _ ?_ ?_
                · exact HSC.out _ hgv22
                clear hK K
                intro hHeld22
                try simp only [Act.put, List.setIfInBounds_toArray, List.set_cons_zero, List.set_cons_succ]
                clear q1 q2 q3 q4
                refine wpAnyH_ready (rs := [6]) (by kernel_rfl) (by simp) ?_
                refine AllReadyH.cons rfl (fun K hK => ?_) ?_
                · simp only [List.getElem_toArray, List.getElem_cons_succ, List.getElem_cons_zero]
                  go_simp
                  (go_at_call 18; (with_reducible refine (HRUN.out _ _ _ hA22).mono ?_); rintro e w23_ ⟨rfl, hg23_⟩)
                  have hgv23 : Grows V0 w23_ := hgv22.trans hg23_
                  have HR23 := Grows.rowK HR22 hg23_
                  refine hK.out _ _ ?_ ?_
                  · exact HSC.out _ hgv23
                  clear hK K
                  intro hHeld23
                  try simp only [Act.put, List.getElem_toArray, List.getElem_cons_succ, List.getElem_cons_zero, List.setIfInBounds_toArray, List.set_cons_zero, List.set_cons_succ]
                  refine wpAnyH_take (i := 7) (v := ?vt24_7) rfl (by kernel_rfl) (by kernel_rfl) (by kernel_rfl) (fun _ _ _ h => h) (Or.inl ⟨by kernel_rfl, ?yt24_7⟩) (by assumption) ?rt24_7
                  case yt24_7 => ((intro w hSw; (try dsimp only at hSw); go_simp); (try with_reducible rfl))
                  try simp only [Act.put, List.getElem_toArray, List.getElem_cons_succ, List.getElem_cons_zero, List.setIfInBounds_toArray, List.set_cons_zero, List.set_cons_succ]
                  refine wpAnyH_take (i := 8) (v := ?vt25_8) rfl (by kernel_rfl) (by kernel_rfl) (by kernel_rfl) (fun _ _ _ h => h) (Or.inl ⟨by kernel_rfl, ?yt25_8⟩) (by assumption) ?rt25_8
                  case yt25_8 => ((intro w hSw; (try dsimp only at hSw); go_simp); (try with_reducible rfl))
                  try simp only [Act.put, List.getElem_toArray, List.getElem_cons_succ, List.getElem_cons_zero, List.setIfInBounds_toArray, List.set_cons_zero, List.set_cons_succ]
                  refine wpAnyH_take (i := 9) (v := ?vt26_9) rfl (by kernel_rfl) (by kernel_rfl) (by kernel_rfl) (fun _ _ _ h => h) (Or.inl ⟨by kernel_rfl, ?yt26_9⟩) (by assumption) ?rt26_9
                  case yt26_9 => ((intro w hSw; (try dsimp only at hSw); go_simp); (try with_reducible rfl))
                  try simp only [Act.put, List.getElem_toArray, List.getElem_cons_succ, List.getElem_cons_zero, List.setIfInBounds_toArray, List.set_cons_zero, List.set_cons_succ]
                  refine wpAnyH_ready (rs := [11]) (by kernel_rfl) (by simp) ?_
                  refine AllReadyH.cons rfl (fun K hK => ?_) ?_
                  · simp only [List.getElem_toArray, List.getElem_cons_succ, List.getElem_cons_zero]
                    rw [if_pos (by kernel_rfl)]
                    have hgs27 : Grows V0 (w23_.setRow (w5_.heap.size) #[.int .i64 y0, .int .i64 y1, .int .i64 y2, .int .i64 y3, .int .i64 y4, .int .i64 y5, .int .i64 y6, .int .i64 y7]) := hgv23.setRowK hnb21 _
                    have hrs27 := setRow_heap w23_ (w5_.heap.size) _ #[.int .i64 y0, .int .i64 y1, .int .i64 y2, .int .i64 y3, .int .i64 y4, .int .i64 y5, .int .i64 y6, .int .i64 y7] 42 (0, 0) HR23
                    refine wp_store_row 42 (.tmp 21) (.tmp 129) rfl (w5_.heap.size) #[.int .i64 y0, .int .i64 y1, .int .i64 y2, .int .i64 y3, .int .i64 y4, .int .i64 y5, .int .i64 y6, .int .i64 y7] rfl rfl 42 #[.int .i64 0, .int .i64 0, .int .i64 0, .int .i64 0, .int .i64 0, .int .i64 0, .int .i64 0, .int .i64 0] HR23 info42 rfl (by simp [Value.oneCell']) ?_
                    refine hK.out _ _ ?_ ?_
                    · exact HSC.out _ hgs27
                    clear hK K
                    intro hHeld27
                    try simp only [Act.put]
                    refine wpAnyH_take (i := 12) (v := ?vt28_12) rfl (by kernel_rfl) (by kernel_rfl) (by kernel_rfl) (fun _ _ _ h => h) (Or.inl ⟨by kernel_rfl, ?yt28_12⟩) (by assumption) ?rt28_12
                    case yt28_12 => ((intro w hSw; (try dsimp only at hSw); go_simp); (try with_reducible rfl))
                    try simp only [Act.put, List.getElem_toArray, List.getElem_cons_succ, List.getElem_cons_zero, List.setIfInBounds_toArray, List.set_cons_zero, List.set_cons_succ]
                    refine wpAnyH_done (by kernel_rfl) ?_ _
                    go_upto_region 22 with fail
                    refine abs_worldM (fun X => Grows V0 X ∧ X.heap[n19]? = some (.cells #[.int .i64 y0, .int .i64 y1, .int .i64 y2, .int .i64 y3, .int .i64 y4, .int .i64 y5, .int .i64 y6, .int .i64 y7] 42 (0, 0)) ∧ X.heap[w5_.heap.size]? = some (.cells #[.int .i64 y0, .int .i64 y1, .int .i64 y2, .int .i64 y3, .int .i64 y4, .int .i64 y5, .int .i64 y6, .int .i64 y7] 42 (0, 0))) ⟨(by repeat' (first | (with_reducible exact hgs27) | (with_reducible refine Grows.alloc ?_ _) | (with_reducible refine Grows.drew ?_) | (with_reducible refine Grows.ext ?_ _ _))), Grows.rowK HR19.out (by repeat' (first | (with_reducible exact hgs27) | (with_reducible refine Grows.alloc ?_ _) | (with_reducible refine Grows.drew ?_) | (with_reducible refine Grows.ext ?_ _ _))), Grows.rowK hrs27 (by repeat' (first | (with_reducible exact Grows.refl _) | (with_reducible refine Grows.alloc ?_ _) | (with_reducible refine Grows.drew ?_)))⟩ ?_
                    generalize w5_.heap.size = n21 at *
                    rintro X ⟨hgX, hr19, hr21⟩
                    have p0 := (cell_of_row X n19 0 _ 42 (0, 0) hr19).trans (show _ = some (.int .i64 y0) from rfl)
                    have p1 := (cell_of_row X n19 1 _ 42 (0, 0) hr19).trans (show _ = some (.int .i64 y1) from rfl)
                    have p2 := (cell_of_row X n19 2 _ 42 (0, 0) hr19).trans (show _ = some (.int .i64 y2) from rfl)
                    have p3 := (cell_of_row X n19 3 _ 42 (0, 0) hr19).trans (show _ = some (.int .i64 y3) from rfl)
                    have p4 := (cell_of_row X n19 4 _ 42 (0, 0) hr19).trans (show _ = some (.int .i64 y4) from rfl)
                    have p5 := (cell_of_row X n19 5 _ 42 (0, 0) hr19).trans (show _ = some (.int .i64 y5) from rfl)
                    have p6 := (cell_of_row X n19 6 _ 42 (0, 0) hr19).trans (show _ = some (.int .i64 y6) from rfl)
                    have p7 := (cell_of_row X n19 7 _ 42 (0, 0) hr19).trans (show _ = some (.int .i64 y7) from rfl)
                    have q0_ := (cell_of_row X n21 0 _ 42 (0, 0) hr21).trans (show _ = some (.int .i64 y0) from rfl)
                    have q1_ := (cell_of_row X n21 1 _ 42 (0, 0) hr21).trans (show _ = some (.int .i64 y1) from rfl)
                    have q2_ := (cell_of_row X n21 2 _ 42 (0, 0) hr21).trans (show _ = some (.int .i64 y2) from rfl)
                    have q3_ := (cell_of_row X n21 3 _ 42 (0, 0) hr21).trans (show _ = some (.int .i64 y3) from rfl)
                    have q4_ := (cell_of_row X n21 4 _ 42 (0, 0) hr21).trans (show _ = some (.int .i64 y4) from rfl)
                    have q5_ := (cell_of_row X n21 5 _ 42 (0, 0) hr21).trans (show _ = some (.int .i64 y5) from rfl)
                    have q6_ := (cell_of_row X n21 6 _ 42 (0, 0) hr21).trans (show _ = some (.int .i64 y6) from rfl)
                    have q7_ := (cell_of_row X n21 7 _ 42 (0, 0) hr21).trans (show _ = some (.int .i64 y7) from rfl)
                    have hs19 := (Array.getElem?_eq_some_iff.1 hr19).1
                    have hs21 := (Array.getElem?_eq_some_iff.1 hr21).1
                    clear hr19 hr21
                    go_wp2_with fail
                    go_ret
                    exact ⟨rfl, HW0.out.trans hgX⟩
                  exact AllReadyH.nil
                exact AllReadyH.nil
              exact AllReadyH.nil
            exact AllReadyH.nil
          refine AllReadyH.cons rfl (fun K hK => ?_) ?_
          · simp only [List.getElem_toArray, List.getElem_cons_succ, List.getElem_cons_zero]
            go_simp
            refine hK.out _ _ ?_ ?_
            · exact HSC.out _ (by repeat' (first | (with_reducible exact hgv4) | (with_reducible refine Grows.alloc ?_ _) | (with_reducible refine Grows.drew ?_) | (with_reducible refine Grows.ext ?_ _ _)))
            clear hK K
            intro _
            try simp only [Act.put, List.getElem_toArray, List.getElem_cons_succ, List.getElem_cons_zero, List.setIfInBounds_toArray, List.set_cons_zero, List.set_cons_succ]
            refine abs_any (fun X29 => Grows V0 X29 ∧ DstAt V0.heap.size 26 6 X29 (Value.slice (some ⟨X0.heap.size, 0, none⟩) 0 0) 0 [] ∧ (∀ k, (Value.slice (some ⟨X0.heap.size, 0, none⟩) 0 0).ownBlock = some k → k < X29.heap.size) ∧ X29.heap[X4.heap.size]? = some (.cells #[.int .i64 0, .int .i64 0, .int .i64 0, .int .i64 0, .int .i64 0, .int .i64 0, .int .i64 0, .int .i64 0] 42 (0, 0))) ⟨(by repeat' (first | (with_reducible exact hgv4) | (with_reducible refine Grows.alloc ?_ _) | (with_reducible refine Grows.drew ?_) | (with_reducible refine Grows.ext ?_ _ _))), hD4.grows (by repeat' (first | (with_reducible exact Grows.refl _) | (with_reducible refine Grows.alloc ?_ _) | (with_reducible refine Grows.drew ?_))), (fun k e => Nat.lt_of_lt_of_le (hdl4 k e) (Grows.size (by repeat' (first | (with_reducible exact Grows.refl _) | (with_reducible refine Grows.alloc ?_ _) | (with_reducible refine Grows.drew ?_))))), heap_alloc_new X4 _⟩ ?_
            rintro X29 ⟨hgv29, hD29, hdl29, HR29⟩
            have hHeld29 := HSC.out X29 hgv29
            have hnb29 : V0.heap.size ≤ X4.heap.size := hgv4.size
            have hne29 : ∀ k, (Value.slice (some ⟨X0.heap.size, 0, none⟩) 0 0).ownBlock = some k → k ≠ X4.heap.size := fun k e => Nat.ne_of_lt (hdl4 k e)
            refine wpAnyH_ready (rs := [3]) (by kernel_rfl) (by simp) ?_
            refine AllReadyH.cons rfl (fun K hK => ?_) ?_
            · simp only [List.getElem_toArray, List.getElem_cons_succ, List.getElem_cons_zero]
              rw [if_pos (by kernel_rfl)]
              refine wp_app _ (.tmp 123) (.tmp 124) 33 rfl V0.heap.size 26 i0 _ 6 56 Tryd.underlying33 hi hz0 hz1 hz2 rfl (by decide) 0 ps.length [] (actsC (ps.map actP)) hD29 (acts_cellsn (by simp) (HX0.out.grows hgv29)) actsC_one (by unfold maxLen; omega) (by omega) hgv29.size ?_
              intro v30 w30_ row30 q1 q2 q3 q4
              have hgv30 : Grows V0 w30_ := appended_grows hgv29 q2 (fun k e => (q3 k e).1)
              have hdl30 := app_lt (v := Value.slice (some ⟨X0.heap.size, 0, none⟩) 0 0) hdl29 q2 q4
              obtain ⟨HR30, hne30⟩ := app_keep (v := Value.slice (some ⟨X0.heap.size, 0, none⟩) 0 0) HR29 hne29 q2 q3 q4
              refine hK.out _ _ ?_ ?_
              · exact HSC.out _ hgv30
              clear hK K
              intro hHeld30
              try simp only [Act.put, List.setIfInBounds_toArray, List.set_cons_zero, List.set_cons_succ]
              have hD30 := q1
              clear q1 q2 q3 q4
              refine wpAnyH_ready (rs := [5]) (by kernel_rfl) (by simp) ?_
              refine AllReadyH.cons rfl (fun K hK => ?_) ?_
              · simp only [List.getElem_toArray, List.getElem_cons_succ, List.getElem_cons_zero]
                rw [if_pos (by kernel_rfl)]
                refine wp_app _ (.tmp 125) (.tmp 126) 33 rfl V0.heap.size 26 i0 _ 6 56 Tryd.underlying33 hi hz0 hz1 hz2 rfl (by decide) (0 + ps.length) qs.length ([] ++ actsC (ps.map actP)) (actsC (qs.map actP)) hD30 (acts_cellsn (by simp) (HY0.out.grows hgv30)) actsC_one (by unfold maxLen; omega) (by omega) hgv30.size ?_
                intro v31 w31_ row31 q1 q2 q3 q4
                have hgv31 : Grows V0 w31_ := appended_grows hgv30 q2 (fun k e => (q3 k e).1)
                have hdl31 := app_lt (v := v30) hdl30 q2 q4
                obtain ⟨HR31, hne31⟩ := app_keep (v := v30) HR30 hne30 q2 q3 q4
                obtain ⟨a15, c15, rfl, hC15⟩ := dst_shapeN hNq q1
                have hA31 : ActsAt w31_ (.slice a15 N c15) (L.map actP) := cells_acts (n := N) (by rw [List.length_map]; exact HNE.out.2) (by rw [← HCAT.out]; exact hC15)
                refine hK.out _ _ ?_ ?_
                · exact HSC.out _ hgv31
                clear hK K
                intro hHeld31
                try simp only [Act.put, List.setIfInBounds_toArray, List.set_cons_zero, List.set_cons_succ]
                clear q1 q2 q3 q4
                refine wpAnyH_ready (rs := [6]) (by kernel_rfl) (by simp) ?_
                refine AllReadyH.cons rfl (fun K hK => ?_) ?_
                · simp only [List.getElem_toArray, List.getElem_cons_succ, List.getElem_cons_zero]
                  go_simp
                  (go_at_call 18; (with_reducible refine (HRUN.out _ _ _ hA31).mono ?_); rintro e w32_ ⟨rfl, hg32_⟩)
                  have hgv32 : Grows V0 w32_ := hgv31.trans hg32_
                  have HR32 := Grows.rowK HR31 hg32_
                  refine hK.out _ _ ?_ ?_
                  · exact HSC.out _ hgv32
                  clear hK K
                  intro hHeld32
                  try simp only [Act.put, List.getElem_toArray, List.getElem_cons_succ, List.getElem_cons_zero, List.setIfInBounds_toArray, List.set_cons_zero, List.set_cons_succ]
                  refine wpAnyH_take (i := 7) (v := ?vt33_7) rfl (by kernel_rfl) (by kernel_rfl) (by kernel_rfl) (fun _ _ _ h => h) (Or.inl ⟨by kernel_rfl, ?yt33_7⟩) (by assumption) ?rt33_7
                  case yt33_7 => ((intro w hSw; (try dsimp only at hSw); go_simp); (try with_reducible rfl))
                  try simp only [Act.put, List.getElem_toArray, List.getElem_cons_succ, List.getElem_cons_zero, List.setIfInBounds_toArray, List.set_cons_zero, List.set_cons_succ]
                  refine wpAnyH_take (i := 8) (v := ?vt34_8) rfl (by kernel_rfl) (by kernel_rfl) (by kernel_rfl) (fun _ _ _ h => h) (Or.inl ⟨by kernel_rfl, ?yt34_8⟩) (by assumption) ?rt34_8
                  case yt34_8 => ((intro w hSw; (try dsimp only at hSw); go_simp); (try with_reducible rfl))
                  try simp only [Act.put, List.getElem_toArray, List.getElem_cons_succ, List.getElem_cons_zero, List.setIfInBounds_toArray, List.set_cons_zero, List.set_cons_succ]
                  refine wpAnyH_take (i := 9) (v := ?vt35_9) rfl (by kernel_rfl) (by kernel_rfl) (by kernel_rfl) (fun _ _ _ h => h) (Or.inl ⟨by kernel_rfl, ?yt35_9⟩) (by assumption) ?rt35_9
                  case yt35_9 => ((intro w hSw; (try dsimp only at hSw); go_simp); (try with_reducible rfl))
                  try simp only [Act.put, List.getElem_toArray, List.getElem_cons_succ, List.getElem_cons_zero, List.setIfInBounds_toArray, List.set_cons_zero, List.set_cons_succ]
                  refine wpAnyH_ready (rs := [11]) (by kernel_rfl) (by simp) ?_
                  refine AllReadyH.cons rfl (fun K hK => ?_) ?_
                  · simp only [List.getElem_toArray, List.getElem_cons_succ, List.getElem_cons_zero]
                    rw [if_pos (by kernel_rfl)]
                    have hgs36 : Grows V0 (w32_.setRow (X4.heap.size) #[.int .i64 y0, .int .i64 y1, .int .i64 y2, .int .i64 y3, .int .i64 y4, .int .i64 y5, .int .i64 y6, .int .i64 y7]) := hgv32.setRowK hnb29 _
                    have hrs36 := setRow_heap w32_ (X4.heap.size) _ #[.int .i64 y0, .int .i64 y1, .int .i64 y2, .int .i64 y3, .int .i64 y4, .int .i64 y5, .int .i64 y6, .int .i64 y7] 42 (0, 0) HR32
                    refine wp_store_row 42 (.tmp 21) (.tmp 129) rfl (X4.heap.size) #[.int .i64 y0, .int .i64 y1, .int .i64 y2, .int .i64 y3, .int .i64 y4, .int .i64 y5, .int .i64 y6, .int .i64 y7] rfl rfl 42 #[.int .i64 0, .int .i64 0, .int .i64 0, .int .i64 0, .int .i64 0, .int .i64 0, .int .i64 0, .int .i64 0] HR32 info42 rfl (by simp [Value.oneCell']) ?_
                    refine hK.out _ _ ?_ ?_
                    · exact HSC.out _ hgs36
                    clear hK K
                    intro hHeld36
                    try simp only [Act.put]
                    refine wpAnyH_take (i := 12) (v := ?vt37_12) rfl (by kernel_rfl) (by kernel_rfl) (by kernel_rfl) (fun _ _ _ h => h) (Or.inl ⟨by kernel_rfl, ?yt37_12⟩) (by assumption) ?rt37_12
                    case yt37_12 => ((intro w hSw; (try dsimp only at hSw); go_simp); (try with_reducible rfl))
                    try simp only [Act.put, List.getElem_toArray, List.getElem_cons_succ, List.getElem_cons_zero, List.setIfInBounds_toArray, List.set_cons_zero, List.set_cons_succ]
                    refine wpAnyH_done (by kernel_rfl) ?_ _
                    go_upto_region 22 with fail
                    refine abs_worldM (fun X => Grows V0 X ∧ X.heap[n19]? = some (.cells #[.int .i64 y0, .int .i64 y1, .int .i64 y2, .int .i64 y3, .int .i64 y4, .int .i64 y5, .int .i64 y6, .int .i64 y7] 42 (0, 0)) ∧ X.heap[X4.heap.size]? = some (.cells #[.int .i64 y0, .int .i64 y1, .int .i64 y2, .int .i64 y3, .int .i64 y4, .int .i64 y5, .int .i64 y6, .int .i64 y7] 42 (0, 0))) ⟨(by repeat' (first | (with_reducible exact hgs36) | (with_reducible refine Grows.alloc ?_ _) | (with_reducible refine Grows.drew ?_) | (with_reducible refine Grows.ext ?_ _ _))), Grows.rowK HR19.out (by repeat' (first | (with_reducible exact hgs36) | (with_reducible refine Grows.alloc ?_ _) | (with_reducible refine Grows.drew ?_) | (with_reducible refine Grows.ext ?_ _ _))), Grows.rowK hrs36 (by repeat' (first | (with_reducible exact Grows.refl _) | (with_reducible refine Grows.alloc ?_ _) | (with_reducible refine Grows.drew ?_)))⟩ ?_
                    generalize X4.heap.size = n21 at *
                    rintro X ⟨hgX, hr19, hr21⟩
                    have p0 := (cell_of_row X n19 0 _ 42 (0, 0) hr19).trans (show _ = some (.int .i64 y0) from rfl)
                    have p1 := (cell_of_row X n19 1 _ 42 (0, 0) hr19).trans (show _ = some (.int .i64 y1) from rfl)
                    have p2 := (cell_of_row X n19 2 _ 42 (0, 0) hr19).trans (show _ = some (.int .i64 y2) from rfl)
                    have p3 := (cell_of_row X n19 3 _ 42 (0, 0) hr19).trans (show _ = some (.int .i64 y3) from rfl)
                    have p4 := (cell_of_row X n19 4 _ 42 (0, 0) hr19).trans (show _ = some (.int .i64 y4) from rfl)
                    have p5 := (cell_of_row X n19 5 _ 42 (0, 0) hr19).trans (show _ = some (.int .i64 y5) from rfl)
                    have p6 := (cell_of_row X n19 6 _ 42 (0, 0) hr19).trans (show _ = some (.int .i64 y6) from rfl)
                    have p7 := (cell_of_row X n19 7 _ 42 (0, 0) hr19).trans (show _ = some (.int .i64 y7) from rfl)
                    have q0_ := (cell_of_row X n21 0 _ 42 (0, 0) hr21).trans (show _ = some (.int .i64 y0) from rfl)
                    have q1_ := (cell_of_row X n21 1 _ 42 (0, 0) hr21).trans (show _ = some (.int .i64 y1) from rfl)
                    have q2_ := (cell_of_row X n21 2 _ 42 (0, 0) hr21).trans (show _ = some (.int .i64 y2) from rfl)
                    have q3_ := (cell_of_row X n21 3 _ 42 (0, 0) hr21).trans (show _ = some (.int .i64 y3) from rfl)
                    have q4_ := (cell_of_row X n21 4 _ 42 (0, 0) hr21).trans (show _ = some (.int .i64 y4) from rfl)
                    have q5_ := (cell_of_row X n21 5 _ 42 (0, 0) hr21).trans (show _ = some (.int .i64 y5) from rfl)
                    have q6_ := (cell_of_row X n21 6 _ 42 (0, 0) hr21).trans (show _ = some (.int .i64 y6) from rfl)
                    have q7_ := (cell_of_row X n21 7 _ 42 (0, 0) hr21).trans (show _ = some (.int .i64 y7) from rfl)
                    have hs19 := (Array.getElem?_eq_some_iff.1 hr19).1
                    have hs21 := (Array.getElem?_eq_some_iff.1 hr21).1
                    clear hr19 hr21
                    go_wp2_with fail
                    go_ret
                    exact ⟨rfl, HW0.out.trans hgX⟩
                  exact AllReadyH.nil
                exact AllReadyH.nil
              exact AllReadyH.nil
            exact AllReadyH.nil
          exact AllReadyH.nil
        refine AllReadyH.cons rfl (fun K hK => ?_) ?_
        · simp only [List.getElem_toArray, List.getElem_cons_succ, List.getElem_cons_zero]
          go_simp
          refine hK.out _ _ ?_ ?_
          · exact HSC.out _ (by repeat' (first | (with_reducible exact hgv0) | (with_reducible refine Grows.alloc ?_ _) | (with_reducible refine Grows.drew ?_) | (with_reducible refine Grows.ext ?_ _ _)))
          clear hK K
          intro _
          try simp only [Act.put, List.getElem_toArray, List.getElem_cons_succ, List.getElem_cons_zero, List.setIfInBounds_toArray, List.set_cons_zero, List.set_cons_succ]
          refine abs_any (fun X38 => Grows V0 X38 ∧ X38.heap[X0.heap.size]? = some (.cells #[.int .i64 0, .int .i64 0, .int .i64 0, .int .i64 0, .int .i64 0, .int .i64 0, .int .i64 0, .int .i64 0] 42 (0, 0))) ⟨(by repeat' (first | (with_reducible exact hgv0) | (with_reducible refine Grows.alloc ?_ _) | (with_reducible refine Grows.drew ?_) | (with_reducible refine Grows.ext ?_ _ _))), heap_alloc_new X0 _⟩ ?_
          rintro X38 ⟨hgv38, HR38⟩
          have hHeld38 := HSC.out X38 hgv38
          have hnb38 : V0.heap.size ≤ X0.heap.size := hgv0.size
          refine wpAnyH_ready (rs := [1]) (by kernel_rfl) (by simp) ?_
          refine AllReadyH.cons rfl (fun K hK => ?_) ?_
          · simp only [List.getElem_toArray, List.getElem_cons_succ, List.getElem_cons_zero]
            go_simp
            refine hK.out _ _ ?_ ?_
            · exact HSC.out _ (by repeat' (first | (with_reducible exact hgv38) | (with_reducible refine Grows.alloc ?_ _) | (with_reducible refine Grows.drew ?_) | (with_reducible refine Grows.ext ?_ _ _)))
            clear hK K
            intro _
            try simp only [Act.put, List.getElem_toArray, List.getElem_cons_succ, List.getElem_cons_zero, List.setIfInBounds_toArray, List.set_cons_zero, List.set_cons_succ]
            refine abs_any (fun X39 => Grows V0 X39 ∧ X39.heap[X0.heap.size]? = some (.cells #[.int .i64 0, .int .i64 0, .int .i64 0, .int .i64 0, .int .i64 0, .int .i64 0, .int .i64 0, .int .i64 0] 42 (0, 0)) ∧ (∀ k, (Value.slice (some ⟨X38.heap.size, 0, none⟩) 0 0).ownBlock = some k → k < X39.heap.size) ∧ (∀ k, (Value.slice (some ⟨X38.heap.size, 0, none⟩) 0 0).ownBlock = some k → k ≠ X0.heap.size)) ⟨(by repeat' (first | (with_reducible exact hgv38) | (with_reducible refine Grows.alloc ?_ _) | (with_reducible refine Grows.drew ?_) | (with_reducible refine Grows.ext ?_ _ _))), Grows.rowK HR38 (by repeat' (first | (with_reducible exact Grows.refl _) | (with_reducible refine Grows.alloc ?_ _) | (with_reducible refine Grows.drew ?_))), (fun k e => by injection e with e; subst e; simp [World.size_alloc]), (fun k e => by injection e with e; have := (Array.getElem?_eq_some_iff.1 HR38).1; simp only [] at e; omega)⟩ ?_
            rintro X39 ⟨hgv39, HR39, hdl39, hne39⟩
            have hHeld39 := HSC.out X39 hgv39
            have hD39 := DstAt.none_ V0.heap.size 26 6 X39 (some ⟨X38.heap.size, 0, none⟩)
            refine wpAnyH_ready (rs := [3]) (by kernel_rfl) (by simp) ?_
            refine AllReadyH.cons rfl (fun K hK => ?_) ?_
            · simp only [List.getElem_toArray, List.getElem_cons_succ, List.getElem_cons_zero]
              rw [if_pos (by kernel_rfl)]
              refine wp_app _ (.tmp 123) (.tmp 124) 33 rfl V0.heap.size 26 i0 _ 6 56 Tryd.underlying33 hi hz0 hz1 hz2 rfl (by decide) 0 ps.length [] (actsC (ps.map actP)) hD39 (acts_cellsn (by simp) (HX0.out.grows hgv39)) actsC_one (by unfold maxLen; omega) (by omega) hgv39.size ?_
              intro v40 w40_ row40 q1 q2 q3 q4
              have hgv40 : Grows V0 w40_ := appended_grows hgv39 q2 (fun k e => (q3 k e).1)
              have hdl40 := app_lt (v := Value.slice (some ⟨X38.heap.size, 0, none⟩) 0 0) hdl39 q2 q4
              obtain ⟨HR40, hne40⟩ := app_keep (v := Value.slice (some ⟨X38.heap.size, 0, none⟩) 0 0) HR39 hne39 q2 q3 q4
              refine hK.out _ _ ?_ ?_
              · exact HSC.out _ hgv40
              clear hK K
              intro hHeld40
              try simp only [Act.put, List.setIfInBounds_toArray, List.set_cons_zero, List.set_cons_succ]
              have hD40 := q1
              clear q1 q2 q3 q4
              refine wpAnyH_ready (rs := [5]) (by kernel_rfl) (by simp) ?_
              refine AllReadyH.cons rfl (fun K hK => ?_) ?_
              · simp only [List.getElem_toArray, List.getElem_cons_succ, List.getElem_cons_zero]
                rw [if_pos (by kernel_rfl)]
                refine wp_app _ (.tmp 125) (.tmp 126) 33 rfl V0.heap.size 26 i0 _ 6 56 Tryd.underlying33 hi hz0 hz1 hz2 rfl (by decide) (0 + ps.length) qs.length ([] ++ actsC (ps.map actP)) (actsC (qs.map actP)) hD40 (acts_cellsn (by simp) (HY0.out.grows hgv40)) actsC_one (by unfold maxLen; omega) (by omega) hgv40.size ?_
                intro v41 w41_ row41 q1 q2 q3 q4
                have hgv41 : Grows V0 w41_ := appended_grows hgv40 q2 (fun k e => (q3 k e).1)
                have hdl41 := app_lt (v := v40) hdl40 q2 q4
                obtain ⟨HR41, hne41⟩ := app_keep (v := v40) HR40 hne40 q2 q3 q4
                obtain ⟨a15, c15, rfl, hC15⟩ := dst_shapeN hNq q1
                have hA41 : ActsAt w41_ (.slice a15 N c15) (L.map actP) := cells_acts (n := N) (by rw [List.length_map]; exact HNE.out.2) (by rw [← HCAT.out]; exact hC15)
                refine hK.out _ _ ?_ ?_
                · exact HSC.out _ hgv41
                clear hK K
                intro hHeld41
                try simp only [Act.put, List.setIfInBounds_toArray, List.set_cons_zero, List.set_cons_succ]
                clear q1 q2 q3 q4
                refine wpAnyH_ready (rs := [6]) (by kernel_rfl) (by simp) ?_
                refine AllReadyH.cons rfl (fun K hK => ?_) ?_
                · simp only [List.getElem_toArray, List.getElem_cons_succ, List.getElem_cons_zero]
                  go_simp
                  (go_at_call 18; (with_reducible refine (HRUN.out _ _ _ hA41).mono ?_); rintro e w42_ ⟨rfl, hg42_⟩)
                  have hgv42 : Grows V0 w42_ := hgv41.trans hg42_
                  have HR42 := Grows.rowK HR41 hg42_
                  refine hK.out _ _ ?_ ?_
                  · exact HSC.out _ hgv42
                  clear hK K
                  intro hHeld42
                  try simp only [Act.put, List.getElem_toArray, List.getElem_cons_succ, List.getElem_cons_zero, List.setIfInBounds_toArray, List.set_cons_zero, List.set_cons_succ]
                  refine wpAnyH_take (i := 7) (v := ?vt43_7) rfl (by kernel_rfl) (by kernel_rfl) (by kernel_rfl) (fun _ _ _ h => h) (Or.inl ⟨by kernel_rfl, ?yt43_7⟩) (by assumption) ?rt43_7
                  case yt43_7 => ((intro w hSw; (try dsimp only at hSw); go_simp); (try with_reducible rfl))
                  try simp only [Act.put, List.getElem_toArray, List.getElem_cons_succ, List.getElem_cons_zero, List.setIfInBounds_toArray, List.set_cons_zero, List.set_cons_succ]
                  refine wpAnyH_take (i := 8) (v := ?vt44_8) rfl (by kernel_rfl) (by kernel_rfl) (by kernel_rfl) (fun _ _ _ h => h) (Or.inl ⟨by kernel_rfl, ?yt44_8⟩) (by assumption) ?rt44_8
                  case yt44_8 => ((intro w hSw; (try dsimp only at hSw); go_simp); (try with_reducible rfl))
                  try simp only [Act.put, List.getElem_toArray, List.getElem_cons_succ, List.getElem_cons_zero, List.setIfInBounds_toArray, List.set_cons_zero, List.set_cons_succ]
                  refine wpAnyH_take (i := 9) (v := ?vt45_9) rfl (by kernel_rfl) (by kernel_rfl) (by kernel_rfl) (fun _ _ _ h => h) (Or.inl ⟨by kernel_rfl, ?yt45_9⟩) (by assumption) ?rt45_9
                  case yt45_9 => ((intro w hSw; (try dsimp only at hSw); go_simp); (try with_reducible rfl))
                  try simp only [Act.put, List.getElem_toArray, List.getElem_cons_succ, List.getElem_cons_zero, List.setIfInBounds_toArray, List.set_cons_zero, List.set_cons_succ]
                  refine wpAnyH_ready (rs := [11]) (by kernel_rfl) (by simp) ?_
                  refine AllReadyH.cons rfl (fun K hK => ?_) ?_
                  · simp only [List.getElem_toArray, List.getElem_cons_succ, List.getElem_cons_zero]
                    rw [if_pos (by kernel_rfl)]
                    have hgs46 : Grows V0 (w42_.setRow (X0.heap.size) #[.int .i64 y0, .int .i64 y1, .int .i64 y2, .int .i64 y3, .int .i64 y4, .int .i64 y5, .int .i64 y6, .int .i64 y7]) := hgv42.setRowK hnb38 _
                    have hrs46 := setRow_heap w42_ (X0.heap.size) _ #[.int .i64 y0, .int .i64 y1, .int .i64 y2, .int .i64 y3, .int .i64 y4, .int .i64 y5, .int .i64 y6, .int .i64 y7] 42 (0, 0) HR42
                    refine wp_store_row 42 (.tmp 21) (.tmp 129) rfl (X0.heap.size) #[.int .i64 y0, .int .i64 y1, .int .i64 y2, .int .i64 y3, .int .i64 y4, .int .i64 y5, .int .i64 y6, .int .i64 y7] rfl rfl 42 #[.int .i64 0, .int .i64 0, .int .i64 0, .int .i64 0, .int .i64 0, .int .i64 0, .int .i64 0, .int .i64 0] HR42 info42 rfl (by simp [Value.oneCell']) ?_
                    refine hK.out _ _ ?_ ?_
                    · exact HSC.out _ hgs46
                    clear hK K
                    intro hHeld46
                    try simp only [Act.put]
                    refine wpAnyH_take (i := 12) (v := ?vt47_12) rfl (by kernel_rfl) (by kernel_rfl) (by kernel_rfl) (fun _ _ _ h => h) (Or.inl ⟨by kernel_rfl, ?yt47_12⟩) (by assumption) ?rt47_12
                    case yt47_12 => ((intro w hSw; (try dsimp only at hSw); go_simp); (try with_reducible rfl))
                    try simp only [Act.put, List.getElem_toArray, List.getElem_cons_succ, List.getElem_cons_zero, List.setIfInBounds_toArray, List.set_cons_zero, List.set_cons_succ]
                    refine wpAnyH_done (by kernel_rfl) ?_ _
                    go_upto_region 22 with fail
                    refine abs_worldM (fun X => Grows V0 X ∧ X.heap[n19]? = some (.cells #[.int .i64 y0, .int .i64 y1, .int .i64 y2, .int .i64 y3, .int .i64 y4, .int .i64 y5, .int .i64 y6, .int .i64 y7] 42 (0, 0)) ∧ X.heap[X0.heap.size]? = some (.cells #[.int .i64 y0, .int .i64 y1, .int .i64 y2, .int .i64 y3, .int .i64 y4, .int .i64 y5, .int .i64 y6, .int .i64 y7] 42 (0, 0))) ⟨(by repeat' (first | (with_reducible exact hgs46) | (with_reducible refine Grows.alloc ?_ _) | (with_reducible refine Grows.drew ?_) | (with_reducible refine Grows.ext ?_ _ _))), Grows.rowK HR19.out (by repeat' (first | (with_reducible exact hgs46) | (with_reducible refine Grows.alloc ?_ _) | (with_reducible refine Grows.drew ?_) | (with_reducible refine Grows.ext ?_ _ _))), Grows.rowK hrs46 (by repeat' (first | (with_reducible exact Grows.refl _) | (with_reducible refine Grows.alloc ?_ _) | (with_reducible refine Grows.drew ?_)))⟩ ?_
                    generalize X0.heap.size = n21 at *
                    rintro X ⟨hgX, hr19, hr21⟩
                    have p0 := (cell_of_row X n19 0 _ 42 (0, 0) hr19).trans (show _ = some (.int .i64 y0) from rfl)
                    have p1 := (cell_of_row X n19 1 _ 42 (0, 0) hr19).trans (show _ = some (.int .i64 y1) from rfl)
                    have p2 := (cell_of_row X n19 2 _ 42 (0, 0) hr19).trans (show _ = some (.int .i64 y2) from rfl)
                    have p3 := (cell_of_row X n19 3 _ 42 (0, 0) hr19).trans (show _ = some (.int .i64 y3) from rfl)
                    have p4 := (cell_of_row X n19 4 _ 42 (0, 0) hr19).trans (show _ = some (.int .i64 y4) from rfl)
                    have p5 := (cell_of_row X n19 5 _ 42 (0, 0) hr19).trans (show _ = some (.int .i64 y5) from rfl)
                    have p6 := (cell_of_row X n19 6 _ 42 (0, 0) hr19).trans (show _ = some (.int .i64 y6) from rfl)
                    have p7 := (cell_of_row X n19 7 _ 42 (0, 0) hr19).trans (show _ = some (.int .i64 y7) from rfl)
                    have q0_ := (cell_of_row X n21 0 _ 42 (0, 0) hr21).trans (show _ = some (.int .i64 y0) from rfl)
                    have q1_ := (cell_of_row X n21 1 _ 42 (0, 0) hr21).trans (show _ = some (.int .i64 y1) from rfl)
                    have q2_ := (cell_of_row X n21 2 _ 42 (0, 0) hr21).trans (show _ = some (.int .i64 y2) from rfl)
                    have q3_ := (cell_of_row X n21 3 _ 42 (0, 0) hr21).trans (show _ = some (.int .i64 y3) from rfl)
                    have q4_ := (cell_of_row X n21 4 _ 42 (0, 0) hr21).trans (show _ = some (.int .i64 y4) from rfl)
                    have q5_ := (cell_of_row X n21 5 _ 42 (0, 0) hr21).trans (show _ = some (.int .i64 y5) from rfl)
                    have q6_ := (cell_of_row X n21 6 _ 42 (0, 0) hr21).trans (show _ = some (.int .i64 y6) from rfl)
                    have q7_ := (cell_of_row X n21 7 _ 42 (0, 0) hr21).trans (show _ = some (.int .i64 y7) from rfl)
                    have hs19 := (Array.getElem?_eq_some_iff.1 hr19).1
                    have hs21 := (Array.getElem?_eq_some_iff.1 hr21).1
                    clear hr19 hr21
                    go_wp2_with fail
                    go_ret
                    exact ⟨rfl, HW0.out.trans hgX⟩
                  exact AllReadyH.nil
                exact AllReadyH.nil
              exact AllReadyH.nil
            exact AllReadyH.nil
          exact AllReadyH.nil
        exact AllReadyH.nil
end Go.Proofs.YtobbphkfdhjmdaaDoor

