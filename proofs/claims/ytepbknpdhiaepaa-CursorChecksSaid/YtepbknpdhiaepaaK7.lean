/-
  Walk: the law CursorChecks.
-/
import Derived.Test.YtepbknpdhiaepaaRows
import Derived.Test.YtepbknpdhiaepaaLt
import Derived.Test.YtepbknpdhiaepaaDefs
import Derived.Test.YtepbknpdhiaepaaW1
import Derived.Test.YtepbknpdhiaepaaW2
import Derived.Test.YtepbknpdhiaepaaW3
import Derived.Test.YtepbknpdhiaepaaW4
import Derived.Test.YtepbknpdhiaepaaW13
import Derived.Test.YtepbknpdhiaepaaW14
import Derived.Test.YtepbknpdhiaepaaW15
import Derived.Test.YtepbknpdhiaepaaW16
import Derived.Test.YtepbknpdhiaepaaW18
import Derived.Test.YtepbknpdhiaepaaIX
import Derived.Test.YtepbknpdhiaepaaK1
import Derived.Test.YtepbknpdhiaepaaK2
import Derived.Test.YtepbknpdhiaepaaK3
import Derived.Test.YtepbknpdhiaepaaK4
import Derived.Test.YtepbknpdhiaepaaArr
import Derived.Test.YtepbknpdhiaepaaEqs
import Derived.Test.YtepbknpdhiaepaaK5
import Derived.Test.YtepbknpdhiaepaaK6
import Derived.WalkKit
import Derived.WalkSpells
import Derived.WalkLawsBesides
import Derived.Handy
import Derived.Laws.Rows
import Derived.Great.BuildSlice
import Derived.Deep.Heap
import Derived.IntWalk
import Derived.Lib.Hide
import Derived.Outline
import Derived.Deep.Light
import Derived.Deep.LoopGhost
import Derived.BigGuardPart
import Derived.BigQuiet
import Derived.Deep.QuietTactic
import Derived.Deep.RegionHeld3
import Derived.Deep.DeepCutAuto
import Derived.Test.YtepbknpdhiaepaaReg
namespace Go.Proofs.Ytepbknpdhiaepaa
open Go.RowKit


theorem Grows.cell {w w' : World} (g : Grows w w') (n i : Nat) (hn : n < w.heap.size) : w'.cell? ⟨n, i, none⟩ = w.cell? ⟨n, i, none⟩ ∧ n < w'.heap.size := by
  obtain ⟨h, d, rfl⟩ := g
  exact ⟨ext_cell _ _ _ _ _ hn, by rw [ext_size]; omega⟩
def DrAt (w : World) (B : Nat) (rows cols top long row col : Int) (o wr : Bool) : Prop := B < w.heap.size ∧ w.cell? ⟨B, 0, none⟩ = some (.int .u8 rows) ∧ w.cell? ⟨B, 1, none⟩ = some (.int .u8 cols) ∧ w.cell? ⟨B, 2, none⟩ = some (.int .u8 top) ∧ w.cell? ⟨B, 3, none⟩ = some (.int .u8 long) ∧ w.cell? ⟨B, 4, none⟩ = some (.int .u8 row) ∧ w.cell? ⟨B, 5, none⟩ = some (.int .u8 col) ∧ w.cell? ⟨B, 6, none⟩ = some (.bool o) ∧ w.cell? ⟨B, 7, none⟩ = some (.bool wr)
theorem DrAt.grows {w w' : World} {B : Nat} {rows cols top long row col : Int} {o wr : Bool} (h : DrAt w B rows cols top long row col o wr) (g : Grows w w') : DrAt w' B rows cols top long row col o wr := by
  obtain ⟨x, d, rfl⟩ := g
  obtain ⟨h0, h1, h2, h3, h4, h5, h6, h7, h8⟩ := h
  refine ⟨by rw [ext_size]; omega, ?_, ?_, ?_, ?_, ?_, ?_, ?_, ?_⟩ <;> (rw [ext_cell _ _ _ _ _ h0]; assumption)
theorem set18 {w : World} {g : Nat} {c0 c1 c2 c3 c4 c5 c6 c7 c8 c9 c10 c11 c12 c13 c14 c15 c16 c17 c18 v0 v1 v2 v3 v4 v5 v6 v7 v8 v9 v10 v11 v12 v13 v14 v15 v16 v17 : Value} (r0 : w.heap[g]? = some (.cells #[c0, c1, c2, c3, c4, c5, c6, c7, c8, c9, c10, c11, c12, c13, c14, c15, c16, c17, c18] 80 (0, 0))) : ((((((((((((((((((w.setCell ⟨g, 0, none⟩ v0).setCell ⟨g, 1, none⟩ v1).setCell ⟨g, 2, none⟩ v2).setCell ⟨g, 3, none⟩ v3).setCell ⟨g, 4, none⟩ v4).setCell ⟨g, 5, none⟩ v5).setCell ⟨g, 6, none⟩ v6).setCell ⟨g, 7, none⟩ v7).setCell ⟨g, 8, none⟩ v8).setCell ⟨g, 9, none⟩ v9).setCell ⟨g, 10, none⟩ v10).setCell ⟨g, 11, none⟩ v11).setCell ⟨g, 12, none⟩ v12).setCell ⟨g, 13, none⟩ v13).setCell ⟨g, 14, none⟩ v14).setCell ⟨g, 15, none⟩ v15).setCell ⟨g, 16, none⟩ v16).setCell ⟨g, 17, none⟩ v17).heap[g]? = some (.cells #[v0, v1, v2, v3, v4, v5, v6, v7, v8, v9, v10, v11, v12, v13, v14, v15, v16, v17, c18] 80 (0, 0)) := by
  have r1 := heap_setCell_same _ g 0 _ 80 v0 r0
  simp only [List.setIfInBounds_toArray, List.set_cons_zero] at r1
  have r2 := heap_setCell_same _ g 1 _ 80 v1 r1
  simp only [List.setIfInBounds_toArray, List.set_cons_zero, List.set_cons_succ] at r2
  have r3 := heap_setCell_same _ g 2 _ 80 v2 r2
  simp only [List.setIfInBounds_toArray, List.set_cons_zero, List.set_cons_succ] at r3
  have r4 := heap_setCell_same _ g 3 _ 80 v3 r3
  simp only [List.setIfInBounds_toArray, List.set_cons_zero, List.set_cons_succ] at r4
  have r5 := heap_setCell_same _ g 4 _ 80 v4 r4
  simp only [List.setIfInBounds_toArray, List.set_cons_zero, List.set_cons_succ] at r5
  have r6 := heap_setCell_same _ g 5 _ 80 v5 r5
  simp only [List.setIfInBounds_toArray, List.set_cons_zero, List.set_cons_succ] at r6
  have r7 := heap_setCell_same _ g 6 _ 80 v6 r6
  simp only [List.setIfInBounds_toArray, List.set_cons_zero, List.set_cons_succ] at r7
  have r8 := heap_setCell_same _ g 7 _ 80 v7 r7
  simp only [List.setIfInBounds_toArray, List.set_cons_zero, List.set_cons_succ] at r8
  have r9 := heap_setCell_same _ g 8 _ 80 v8 r8
  simp only [List.setIfInBounds_toArray, List.set_cons_zero, List.set_cons_succ] at r9
  have r10 := heap_setCell_same _ g 9 _ 80 v9 r9
  simp only [List.setIfInBounds_toArray, List.set_cons_zero, List.set_cons_succ] at r10
  have r11 := heap_setCell_same _ g 10 _ 80 v10 r10
  simp only [List.setIfInBounds_toArray, List.set_cons_zero, List.set_cons_succ] at r11
  have r12 := heap_setCell_same _ g 11 _ 80 v11 r11
  simp only [List.setIfInBounds_toArray, List.set_cons_zero, List.set_cons_succ] at r12
  have r13 := heap_setCell_same _ g 12 _ 80 v12 r12
  simp only [List.setIfInBounds_toArray, List.set_cons_zero, List.set_cons_succ] at r13
  have r14 := heap_setCell_same _ g 13 _ 80 v13 r13
  simp only [List.setIfInBounds_toArray, List.set_cons_zero, List.set_cons_succ] at r14
  have r15 := heap_setCell_same _ g 14 _ 80 v14 r14
  simp only [List.setIfInBounds_toArray, List.set_cons_zero, List.set_cons_succ] at r15
  have r16 := heap_setCell_same _ g 15 _ 80 v15 r15
  simp only [List.setIfInBounds_toArray, List.set_cons_zero, List.set_cons_succ] at r16
  have r17 := heap_setCell_same _ g 16 _ 80 v16 r16
  simp only [List.setIfInBounds_toArray, List.set_cons_zero, List.set_cons_succ] at r17
  have r18 := heap_setCell_same _ g 17 _ 80 v17 r17
  simp only [List.setIfInBounds_toArray, List.set_cons_zero, List.set_cons_succ] at r18
  exact r18
theorem grows18 {w0 w : World} {g : Nat} {v0 v1 v2 v3 v4 v5 v6 v7 v8 v9 v10 v11 v12 v13 v14 v15 v16 v17 : Value} (h : Grows w0 w) (hg : w0.heap.size ≤ g) : Grows w0 ((((((((((((((((((w.setCell ⟨g, 0, none⟩ v0).setCell ⟨g, 1, none⟩ v1).setCell ⟨g, 2, none⟩ v2).setCell ⟨g, 3, none⟩ v3).setCell ⟨g, 4, none⟩ v4).setCell ⟨g, 5, none⟩ v5).setCell ⟨g, 6, none⟩ v6).setCell ⟨g, 7, none⟩ v7).setCell ⟨g, 8, none⟩ v8).setCell ⟨g, 9, none⟩ v9).setCell ⟨g, 10, none⟩ v10).setCell ⟨g, 11, none⟩ v11).setCell ⟨g, 12, none⟩ v12).setCell ⟨g, 13, none⟩ v13).setCell ⟨g, 14, none⟩ v14).setCell ⟨g, 15, none⟩ v15).setCell ⟨g, 16, none⟩ v16).setCell ⟨g, 17, none⟩ v17) := by
  repeat (refine Grows.setCell ?_ hg _)
  exact h
theorem idx83_0 (x0 x1 x2 x3 x4 x5 x6 x7 x8 x9 x10 x11 x12 x13 x14 x15 x16 x17 x18 x19 x20 x21 x22 x23 x24 x25 x26 x27 x28 x29 x30 x31 x32 x33 x34 x35 x36 x37 x38 x39 x40 x41 x42 x43 x44 x45 x46 x47 x48 x49 x50 x51 x52 x53 x54 x55 x56 x57 x58 x59 x60 x61 x62 x63 x64 x65 x66 x67 x68 x69 x70 x71 x72 x73 x74 x75 : Value) (w : World) : (Instr.index 83 (.agg #[x0, x1, x2, x3, x4, x5, x6, x7, x8, x9, x10, x11, x12, x13, x14, x15, x16, x17, x18, x19, x20, x21, x22, x23, x24, x25, x26, x27, x28, x29, x30, x31, x32, x33, x34, x35, x36, x37, x38, x39, x40, x41, x42, x43, x44, x45, x46, x47, x48, x49, x50, x51, x52, x53, x54, x55, x56, x57, x58, x59, x60, x61, x62, x63, x64, x65, x66, x67, x68, x69, x70, x71, x72, x73, x74, x75]) (.int .i64 0)).run Try.prog w = .ok (.agg #[x0, x1, x2, x3, x4, x5, x6, x7, x8, x9, x10, x11, x12, x13, x14, x15, x16, x17, x18]) w := by kernel_rfl
theorem idx83_1 (x0 x1 x2 x3 x4 x5 x6 x7 x8 x9 x10 x11 x12 x13 x14 x15 x16 x17 x18 x19 x20 x21 x22 x23 x24 x25 x26 x27 x28 x29 x30 x31 x32 x33 x34 x35 x36 x37 x38 x39 x40 x41 x42 x43 x44 x45 x46 x47 x48 x49 x50 x51 x52 x53 x54 x55 x56 x57 x58 x59 x60 x61 x62 x63 x64 x65 x66 x67 x68 x69 x70 x71 x72 x73 x74 x75 : Value) (w : World) : (Instr.index 83 (.agg #[x0, x1, x2, x3, x4, x5, x6, x7, x8, x9, x10, x11, x12, x13, x14, x15, x16, x17, x18, x19, x20, x21, x22, x23, x24, x25, x26, x27, x28, x29, x30, x31, x32, x33, x34, x35, x36, x37, x38, x39, x40, x41, x42, x43, x44, x45, x46, x47, x48, x49, x50, x51, x52, x53, x54, x55, x56, x57, x58, x59, x60, x61, x62, x63, x64, x65, x66, x67, x68, x69, x70, x71, x72, x73, x74, x75]) (.int .i64 1)).run Try.prog w = .ok (.agg #[x19, x20, x21, x22, x23, x24, x25, x26, x27, x28, x29, x30, x31, x32, x33, x34, x35, x36, x37]) w := by kernel_rfl
theorem idx83_2 (x0 x1 x2 x3 x4 x5 x6 x7 x8 x9 x10 x11 x12 x13 x14 x15 x16 x17 x18 x19 x20 x21 x22 x23 x24 x25 x26 x27 x28 x29 x30 x31 x32 x33 x34 x35 x36 x37 x38 x39 x40 x41 x42 x43 x44 x45 x46 x47 x48 x49 x50 x51 x52 x53 x54 x55 x56 x57 x58 x59 x60 x61 x62 x63 x64 x65 x66 x67 x68 x69 x70 x71 x72 x73 x74 x75 : Value) (w : World) : (Instr.index 83 (.agg #[x0, x1, x2, x3, x4, x5, x6, x7, x8, x9, x10, x11, x12, x13, x14, x15, x16, x17, x18, x19, x20, x21, x22, x23, x24, x25, x26, x27, x28, x29, x30, x31, x32, x33, x34, x35, x36, x37, x38, x39, x40, x41, x42, x43, x44, x45, x46, x47, x48, x49, x50, x51, x52, x53, x54, x55, x56, x57, x58, x59, x60, x61, x62, x63, x64, x65, x66, x67, x68, x69, x70, x71, x72, x73, x74, x75]) (.int .i64 2)).run Try.prog w = .ok (.agg #[x38, x39, x40, x41, x42, x43, x44, x45, x46, x47, x48, x49, x50, x51, x52, x53, x54, x55, x56]) w := by kernel_rfl
theorem idx83_3 (x0 x1 x2 x3 x4 x5 x6 x7 x8 x9 x10 x11 x12 x13 x14 x15 x16 x17 x18 x19 x20 x21 x22 x23 x24 x25 x26 x27 x28 x29 x30 x31 x32 x33 x34 x35 x36 x37 x38 x39 x40 x41 x42 x43 x44 x45 x46 x47 x48 x49 x50 x51 x52 x53 x54 x55 x56 x57 x58 x59 x60 x61 x62 x63 x64 x65 x66 x67 x68 x69 x70 x71 x72 x73 x74 x75 : Value) (w : World) : (Instr.index 83 (.agg #[x0, x1, x2, x3, x4, x5, x6, x7, x8, x9, x10, x11, x12, x13, x14, x15, x16, x17, x18, x19, x20, x21, x22, x23, x24, x25, x26, x27, x28, x29, x30, x31, x32, x33, x34, x35, x36, x37, x38, x39, x40, x41, x42, x43, x44, x45, x46, x47, x48, x49, x50, x51, x52, x53, x54, x55, x56, x57, x58, x59, x60, x61, x62, x63, x64, x65, x66, x67, x68, x69, x70, x71, x72, x73, x74, x75]) (.int .i64 3)).run Try.prog w = .ok (.agg #[x57, x58, x59, x60, x61, x62, x63, x64, x65, x66, x67, x68, x69, x70, x71, x72, x73, x74, x75]) w := by kernel_rfl
theorem index83 (is : Bool) (sx sy : Int) (sw : Bool) (a u fk fn bk bn lk ln g0 g1 g2 g3 us on : Int) (og : Bool) (hi : In64 a) (hu : In64 us) (gx gy : Int) (gw : Bool) (b8 : Int) (_h8 : 0 ≤ b8 ∧ b8 < 256) (x y : Int) (wr : Bool) (m : Nat) (_hm : m < 4) : ∃ (iz : Bool) (xz yz : Int) (wz : Bool) (az uz fkz fnz bkz bnz lkz lnz g0z g1z g2z g3z usz onz : Int) (oz : Bool), (In64 az ∧ In64 usz) ∧ ∀ w, (Instr.index 83 (.agg #[.bool is, .int .i64 sx, .int .i64 sy, .bool sw, .int .i64 a, .int .i64 u, .int .i64 fk, .int .i64 fn, .int .i64 bk, .int .i64 bn, .int .i64 lk, .int .i64 ln, .int .i64 g0, .int .i64 g1, .int .i64 g2, .int .i64 g3, .int .i64 us, .int .i64 on, .bool og, .bool true, .int .i64 gx, .int .i64 gy, .bool gw, .int .i64 b8, .int .i64 0, .int .i64 0, .int .i64 0, .int .i64 0, .int .i64 0, .int .i64 0, .int .i64 0, .int .i64 (b8 % 2), .int .i64 (b8 / 2 % 2), .int .i64 (b8 / 4 % 2), .int .i64 (b8 / 8 % 2), .int .i64 (b8 / 16 % 2), .int .i64 (onceOf (b8 / 32 % 4)), .bool og, .bool false, .int .i64 0, .int .i64 0, .bool false, .int .i64 0, .int .i64 0, .int .i64 0, .int .i64 0, .int .i64 0, .int .i64 0, .int .i64 0, .int .i64 0, .int .i64 0, .int .i64 0, .int .i64 0, .int .i64 0, .int .i64 0, .int .i64 0, .bool false, .bool false, .int .i64 x, .int .i64 y, .bool wr, .int .i64 0, .int .i64 0, .int .i64 0, .int .i64 0, .int .i64 0, .int .i64 0, .int .i64 0, .int .i64 0, .int .i64 0, .int .i64 0, .int .i64 0, .int .i64 0, .int .i64 0, .int .i64 0, .bool false]) (.int .i64 m)).run Try.prog w = .ok (.agg #[.bool iz, .int .i64 xz, .int .i64 yz, .bool wz, .int .i64 az, .int .i64 uz, .int .i64 fkz, .int .i64 fnz, .int .i64 bkz, .int .i64 bnz, .int .i64 lkz, .int .i64 lnz, .int .i64 g0z, .int .i64 g1z, .int .i64 g2z, .int .i64 g3z, .int .i64 usz, .int .i64 onz, .bool oz]) w := by
  have hm : m = 0 ∨ m = 1 ∨ m = 2 ∨ m = 3 := by omega
  rcases hm with rfl | rfl | rfl | rfl
  · exact ⟨_, _, _, _, _, _, _, _, _, _, _, _, _, _, _, _, _, _, _, ⟨hi, hu⟩, fun w => idx83_0 _ _ _ _ _ _ _ _ _ _ _ _ _ _ _ _ _ _ _ _ _ _ _ _ _ _ _ _ _ _ _ _ _ _ _ _ _ _ _ _ _ _ _ _ _ _ _ _ _ _ _ _ _ _ _ _ _ _ _ _ _ _ _ _ _ _ _ _ _ _ _ _ _ _ _ _ w⟩
  · exact ⟨_, _, _, _, _, _, _, _, _, _, _, _, _, _, _, _, _, _, _, ⟨by unfold In64; omega, by unfold In64; omega⟩, fun w => idx83_1 _ _ _ _ _ _ _ _ _ _ _ _ _ _ _ _ _ _ _ _ _ _ _ _ _ _ _ _ _ _ _ _ _ _ _ _ _ _ _ _ _ _ _ _ _ _ _ _ _ _ _ _ _ _ _ _ _ _ _ _ _ _ _ _ _ _ _ _ _ _ _ _ _ _ _ _ w⟩
  · exact ⟨_, _, _, _, _, _, _, _, _, _, _, _, _, _, _, _, _, _, _, ⟨by unfold In64; omega, by unfold In64; omega⟩, fun w => idx83_2 _ _ _ _ _ _ _ _ _ _ _ _ _ _ _ _ _ _ _ _ _ _ _ _ _ _ _ _ _ _ _ _ _ _ _ _ _ _ _ _ _ _ _ _ _ _ _ _ _ _ _ _ _ _ _ _ _ _ _ _ _ _ _ _ _ _ _ _ _ _ _ _ _ _ _ _ w⟩
  · exact ⟨_, _, _, _, _, _, _, _, _, _, _, _, _, _, _, _, _, _, _, ⟨by unfold In64; omega, by unfold In64; omega⟩, fun w => idx83_3 _ _ _ _ _ _ _ _ _ _ _ _ _ _ _ _ _ _ _ _ _ _ _ _ _ _ _ _ _ _ _ _ _ _ _ _ _ _ _ _ _ _ _ _ _ _ _ _ _ _ _ _ _ _ _ _ _ _ _ _ _ _ _ _ _ _ _ _ _ _ _ _ _ _ _ _ w⟩
theorem rowE {w : World} {h : Array Obj} {d : Nat} {o : Obj} : ((ext w h d).alloc o).heap[w.heap.size + h.size]? = some o := by
  rw [← ext_size w h d]
  exact heap_alloc_new _ _
theorem fsRow_form (k : Bool) (x y : Int) (wr : Bool) (a u fk fn bk bn lk ln g0 g1 g2 g3 us on : Int) (og : Bool) : ∃ (jn : Bool) (xn yn : Int) (wn : Bool) (an un fkn fnn bkn bnn lkn lnn g0n g1n g2n g3n usn onn : Int) (on_ : Bool), fsRow k x y wr a u fk fn bk bn lk ln g0 g1 g2 g3 us on og = #[.bool jn, .int .i64 xn, .int .i64 yn, .bool wn, .int .i64 an, .int .i64 un, .int .i64 fkn, .int .i64 fnn, .int .i64 bkn, .int .i64 bnn, .int .i64 lkn, .int .i64 lnn, .int .i64 g0n, .int .i64 g1n, .int .i64 g2n, .int .i64 g3n, .int .i64 usn, .int .i64 onn, .bool on_] := by
  cases k
  · exact ⟨_, _, _, _, _, _, _, _, _, _, _, _, _, _, _, _, _, _, _, rfl⟩
  · exact ⟨_, _, _, _, _, _, _, _, _, _, _, _, _, _, _, _, _, _, _, rfl⟩
theorem row4 {w : World} {F D C S : Obj} : ((((w.alloc F).alloc D).alloc C).alloc S).heap[w.heap.size + 1 + 1 + 1]? = some S := by
  have h := heap_alloc_new (((w.alloc F).alloc D).alloc C) S
  rwa [World.size_alloc, World.size_alloc, World.size_alloc] at h
/-- A cursor to be read. -/
def CuAt (w : World) (B : Nat) (x y : Int) (wr : Bool) : Prop := B < w.heap.size ∧ w.cell? ⟨B, 0, none⟩ = some (.int .i64 x) ∧ w.cell? ⟨B, 1, none⟩ = some (.int .i64 y) ∧ w.cell? ⟨B, 2, none⟩ = some (.bool wr)
theorem CuAt.grows {w w' : World} {B : Nat} {x y : Int} {g : Bool} (h : CuAt w B x y g) (gr : Grows w w') : CuAt w' B x y g := by
  obtain ⟨h0, h1, h2, h3⟩ := h
  exact ⟨(Grows.cell gr B 0 h0).2, (Grows.cell gr B 0 h0).1.trans h1, (Grows.cell gr B 1 h0).1.trans h2, (Grows.cell gr B 2 h0).1.trans h3⟩
set_option maxRecDepth 100000 in
set_option maxHeartbeats 40000000 in
theorem lawChecks_true (r c t b : Int) (o : Bool) (dr dc dt dl dw dk : Int) (od wd : Bool) (hdr : 0 ≤ dr ∧ dr < 256) (hdc : 0 ≤ dc ∧ dc < 256) (hdt : 0 ≤ dt ∧ dt < 256) (hdl : 0 ≤ dl ∧ dl < 256) (hdw : 0 ≤ dw ∧ dw < 256) (hdk : 0 ≤ dk ∧ dk < 256) (x y : Int) (wr : Bool) (is : Bool) (sx sy : Int) (sw : Bool) (a u fk fn bk bn lk ln g0 g1 g2 g3 us on : Int) (og : Bool) (hi : In64 a) (hu : In64 us) (b8 : Int) (h8 : 0 ≤ b8 ∧ b8 < 256) (w : World) : Calls Try.prog 9 #[.agg #[.int .i64 r, .int .i64 c, .int .i64 t, .int .i64 b, .bool o], .agg #[.int .u8 dr, .int .u8 dc, .int .u8 dt, .int .u8 dl, .int .u8 dw, .int .u8 dk, .bool od, .bool wd], .agg #[.int .i64 x, .int .i64 y, .bool wr], .agg #[.bool is, .int .i64 sx, .int .i64 sy, .bool sw, .int .i64 a, .int .i64 u, .int .i64 fk, .int .i64 fn, .int .i64 bk, .int .i64 bn, .int .i64 lk, .int .i64 ln, .int .i64 g0, .int .i64 g1, .int .i64 g2, .int .i64 g3, .int .i64 us, .int .i64 on, .bool og], .int .u8 b8] w (Ret (.bool true) w) := by
  have Hd := Lib.hid fun W => dcursor_any dr dc dt dl dw dk od wd hdr hdc hdt hdl hdw hdk W
  have Hf := Lib.hid fun W => dfield_any dr dc dt dl dw dk od wd hdr hdc hdt hdl hdw hdk W
  obtain ⟨gx, egx⟩ : ∃ q, q = dRow dr dt dl dw := ⟨_, rfl⟩
  obtain ⟨gy, egy⟩ : ∃ q, q = dCol dc dk := ⟨_, rfl⟩
  obtain ⟨gw, egw⟩ : ∃ q, q = dWr dc dk wd := ⟨_, rfl⟩
  rw [← egx, ← egy, ← egw] at Hd
  have Ho := Lib.hid fun W => of_any b8 h8.1 h8.2 W
  have Hi := Lib.hid hi
  have Hu := Lib.hid hu
  clear hdr hdc hdt hdl hdw hdk egx egy egw hi hu
  go_enter Try.func9, Try.ntmps9
  go_upto_region 1 with fail
  refine abs_worldK (fun W => FldAt W w.heap.size r c t b o ∧ DrAt W (w.heap.size + 1) dr dc dt dl dw dk od wd ∧ CuAt W (w.heap.size + 1 + 1) x y wr ∧ W.heap[w.heap.size + 1 + 1 + 1]? = some (.cells #[.bool is, .int .i64 sx, .int .i64 sy, .bool sw, .int .i64 a, .int .i64 u, .int .i64 fk, .int .i64 fn, .int .i64 bk, .int .i64 bn, .int .i64 lk, .int .i64 ln, .int .i64 g0, .int .i64 g1, .int .i64 g2, .int .i64 g3, .int .i64 us, .int .i64 on, .bool og] 80 (0, 0)) ∧ Grows w W) ⟨⟨by simp [go_sem], by simp [go_sem], by simp [go_sem], by simp [go_sem], by simp [go_sem], by simp [go_sem]⟩, ⟨by simp [go_sem], by simp [go_sem], by simp [go_sem], by simp [go_sem], by simp [go_sem], by simp [go_sem], by simp [go_sem], by simp [go_sem], by simp [go_sem]⟩, ⟨by simp [go_sem], by simp [go_sem], by simp [go_sem], by simp [go_sem]⟩, row4, (by repeat' (first | (with_reducible exact Grows.refl _) | (with_reducible refine Grows.alloc ?_ _) | (with_reducible refine Grows.drew ?_) | (with_reducible refine Grows.ext ?_ _ _)))⟩ ?_
  rintro w1 ⟨hF, hD, hC, R8, hG⟩
  generalize w.heap.size + 1 + 1 + 1 = N8 at *
  generalize w.heap.size + 1 + 1 = N7 at *
  generalize w.heap.size + 1 = N6 at *
  generalize hN5 : w.heap.size = N5 at *
  clear hN5
  have R8h := Lib.hid R8
  have HG := Lib.hid hG
  have HF := Lib.hid hF
  have HD := Lib.hid hD
  have HC := Lib.hid hC
  clear R8 hG hF hD hC
  go_upto_region 2 with (first | (refine wpList_load_row rfl 80 (.tmp 8) rfl N8 rfl 80 #[.bool is, .int .i64 sx, .int .i64 sy, .bool sw, .int .i64 a, .int .i64 u, .int .i64 fk, .int .i64 fn, .int .i64 bk, .int .i64 bn, .int .i64 lk, .int .i64 ln, .int .i64 g0, .int .i64 g1, .int .i64 g2, .int .i64 g3, .int .i64 us, .int .i64 on, .bool og] (0, 0) _ R8h.out Try.underlying80 rfl info80 ?_) | (refine wpList_store_row rfl 80 (.tmp 11) (.tmp 27) rfl w1.heap.size #[.bool is, .int .i64 sx, .int .i64 sy, .bool sw, .int .i64 a, .int .i64 u, .int .i64 fk, .int .i64 fn, .int .i64 bk, .int .i64 bn, .int .i64 lk, .int .i64 ln, .int .i64 g0, .int .i64 g1, .int .i64 g2, .int .i64 g3, .int .i64 us, .int .i64 on, .bool og] rfl rfl 80 #[.bool false, .int .i64 0, .int .i64 0, .bool false, .int .i64 0, .int .i64 0, .int .i64 0, .int .i64 0, .int .i64 0, .int .i64 0, .int .i64 0, .int .i64 0, .int .i64 0, .int .i64 0, .int .i64 0, .int .i64 0, .int .i64 0, .int .i64 0, .bool false] (heap_alloc_new w1 _) info80 rfl (oneCells is sx sy sw a u fk fn bk bn lk ln g0 g1 g2 g3 us on og) ?_))
  refine abs_worldK (fun W => Grows w1 W ∧ W.heap[w1.heap.size]? = some (.cells #[.bool is, .int .i64 sx, .int .i64 sy, .bool sw, .int .i64 a, .int .i64 u, .int .i64 fk, .int .i64 fn, .int .i64 bk, .int .i64 bn, .int .i64 lk, .int .i64 ln, .int .i64 g0, .int .i64 g1, .int .i64 g2, .int .i64 g3, .int .i64 us, .int .i64 on, .bool og] 80 (0, 0))) ⟨((Grows.refl w1).alloc _).setRowK (Nat.le_refl _) _, setRow_heap _ _ _ _ _ _ (heap_alloc_new w1 _)⟩ ?_
  rintro w2 ⟨hG2, R11⟩
  have hle : w1.heap.size ≤ w1.heap.size := Nat.le_refl _
  have hsz : w1.heap.size < w2.heap.size := (Array.getElem?_eq_some_iff.1 R11).1
  obtain ⟨d0, d1, d2, d3, d4, d5, d6, d7, d8⟩ := HD.out.grows hG2
  have s0 : w2.cell? ⟨w1.heap.size, 0, none⟩ = some (.bool is) := (cell_of_row w2 _ 0 _ 80 (0, 0) R11).trans rfl
  have f0 := frozen_of_row w2 w1.heap.size 0 _ 80 R11
  have s1 : w2.cell? ⟨w1.heap.size, 1, none⟩ = some (.int .i64 sx) := (cell_of_row w2 _ 1 _ 80 (0, 0) R11).trans rfl
  have f1 := frozen_of_row w2 w1.heap.size 1 _ 80 R11
  have s2 : w2.cell? ⟨w1.heap.size, 2, none⟩ = some (.int .i64 sy) := (cell_of_row w2 _ 2 _ 80 (0, 0) R11).trans rfl
  have f2 := frozen_of_row w2 w1.heap.size 2 _ 80 R11
  have s3 : w2.cell? ⟨w1.heap.size, 3, none⟩ = some (.bool sw) := (cell_of_row w2 _ 3 _ 80 (0, 0) R11).trans rfl
  have f3 := frozen_of_row w2 w1.heap.size 3 _ 80 R11
  have s4 : w2.cell? ⟨w1.heap.size, 4, none⟩ = some (.int .i64 a) := (cell_of_row w2 _ 4 _ 80 (0, 0) R11).trans rfl
  have f4 := frozen_of_row w2 w1.heap.size 4 _ 80 R11
  have s5 : w2.cell? ⟨w1.heap.size, 5, none⟩ = some (.int .i64 u) := (cell_of_row w2 _ 5 _ 80 (0, 0) R11).trans rfl
  have f5 := frozen_of_row w2 w1.heap.size 5 _ 80 R11
  have s6 : w2.cell? ⟨w1.heap.size, 6, none⟩ = some (.int .i64 fk) := (cell_of_row w2 _ 6 _ 80 (0, 0) R11).trans rfl
  have f6 := frozen_of_row w2 w1.heap.size 6 _ 80 R11
  have s7 : w2.cell? ⟨w1.heap.size, 7, none⟩ = some (.int .i64 fn) := (cell_of_row w2 _ 7 _ 80 (0, 0) R11).trans rfl
  have f7 := frozen_of_row w2 w1.heap.size 7 _ 80 R11
  have s8 : w2.cell? ⟨w1.heap.size, 8, none⟩ = some (.int .i64 bk) := (cell_of_row w2 _ 8 _ 80 (0, 0) R11).trans rfl
  have f8 := frozen_of_row w2 w1.heap.size 8 _ 80 R11
  have s9 : w2.cell? ⟨w1.heap.size, 9, none⟩ = some (.int .i64 bn) := (cell_of_row w2 _ 9 _ 80 (0, 0) R11).trans rfl
  have f9 := frozen_of_row w2 w1.heap.size 9 _ 80 R11
  have s10 : w2.cell? ⟨w1.heap.size, 10, none⟩ = some (.int .i64 lk) := (cell_of_row w2 _ 10 _ 80 (0, 0) R11).trans rfl
  have f10 := frozen_of_row w2 w1.heap.size 10 _ 80 R11
  have s11 : w2.cell? ⟨w1.heap.size, 11, none⟩ = some (.int .i64 ln) := (cell_of_row w2 _ 11 _ 80 (0, 0) R11).trans rfl
  have f11 := frozen_of_row w2 w1.heap.size 11 _ 80 R11
  have s12 : w2.cell? ⟨w1.heap.size, 12, none⟩ = some (.int .i64 g0) := (cell_of_row w2 _ 12 _ 80 (0, 0) R11).trans rfl
  have f12 := frozen_of_row w2 w1.heap.size 12 _ 80 R11
  have s13 : w2.cell? ⟨w1.heap.size, 13, none⟩ = some (.int .i64 g1) := (cell_of_row w2 _ 13 _ 80 (0, 0) R11).trans rfl
  have f13 := frozen_of_row w2 w1.heap.size 13 _ 80 R11
  have s14 : w2.cell? ⟨w1.heap.size, 14, none⟩ = some (.int .i64 g2) := (cell_of_row w2 _ 14 _ 80 (0, 0) R11).trans rfl
  have f14 := frozen_of_row w2 w1.heap.size 14 _ 80 R11
  have s15 : w2.cell? ⟨w1.heap.size, 15, none⟩ = some (.int .i64 g3) := (cell_of_row w2 _ 15 _ 80 (0, 0) R11).trans rfl
  have f15 := frozen_of_row w2 w1.heap.size 15 _ 80 R11
  have s16 : w2.cell? ⟨w1.heap.size, 16, none⟩ = some (.int .i64 us) := (cell_of_row w2 _ 16 _ 80 (0, 0) R11).trans rfl
  have f16 := frozen_of_row w2 w1.heap.size 16 _ 80 R11
  have s17 : w2.cell? ⟨w1.heap.size, 17, none⟩ = some (.int .i64 on) := (cell_of_row w2 _ 17 _ 80 (0, 0) R11).trans rfl
  have f17 := frozen_of_row w2 w1.heap.size 17 _ 80 R11
  have HR11 := Lib.hid R11
  have HG2 := Lib.hid hG2
  clear R11 hG2
  go_upto_region 3 with (first | (go_at_call 14; (with_reducible refine (Hd.out _).mono ?_); rintro e w' ⟨rfl, h1, k1, rfl⟩) | (go_at_call 36; (with_reducible refine (Ho.out _).mono ?_); rintro e w' ⟨rfl, h2, k2, rfl⟩))
  refine abs_worldK (fun W => Grows w1 W ∧ W.heap[w1.heap.size]? = some (.cells #[.bool true, .int .i64 gx, .int .i64 gy, .bool gw, .int .i64 b8, .int .i64 0, .int .i64 0, .int .i64 0, .int .i64 0, .int .i64 0, .int .i64 0, .int .i64 0, .int .i64 (b8 % 2), .int .i64 (b8 / 2 % 2), .int .i64 (b8 / 4 % 2), .int .i64 (b8 / 8 % 2), .int .i64 (b8 / 16 % 2), .int .i64 (onceOf (b8 / 32 % 4)), .bool og] 80 (0, 0))) ⟨(grows18 HG2.out hle).ext _ _, Grows.rowK (set18 HR11.out) ((Grows.refl _).ext _ _)⟩ ?_
  clear s0 f0 s1 f1 s2 f2 s3 f3 s4 f4 s5 f5 s6 f6 s7 f7 s8 f8 s9 f9 s10 f10 s11 f11 s12 f12 s13 f13 s14 f14 s15 f15 s16 f16 s17 f17 d0 d1 d2 d3 d4 d5 d6 d7 d8 hsz
  rintro w3 ⟨hG3, R11⟩
  generalize w1.heap.size = N11 at *
  have HF3 := Lib.hid (HF.out.grows hG3)
  have HD3 := Lib.hid (HD.out.grows hG3)
  have HC3 := Lib.hid (HC.out.grows hG3)
  have R83 := Lib.hid (Grows.rowK R8h.out hG3)
  have R113 := Lib.hid R11
  have HG3 := Lib.hid (HG.out.trans hG3)
  clear hG3 R11 HF HD HC R8h HG HR11 HG2 hle
  obtain ⟨f0, f1, f2, f3, f4, f5⟩ := HF3.out
  obtain ⟨d0, d1, d2, d3, d4, d5, d6, d7, d8⟩ := HD3.out
  refine wp_region_grow (by kernel_rfl) (by kernel_rfl) ?_
  repeat (first | go_big_quiet_step ((first | (rename_i xg; go_at_call 12; (with_reducible refine (Hf.out _).mono ?_); rintro _ _ ⟨rfl, h0, d0, rfl⟩; exact ⟨rfl, Gr.mk (xg.h ++ h0) d0, by simp only [ext_ext, Gr.h_mk, Gr.d_mk, Array.append_assoc]⟩) | (rename_i xg; go_at_call 11; (with_reducible refine (own_any _ _ _ _ _ _).mono ?_); rintro _ _ ⟨rfl, h0, d0, rfl⟩; exact ⟨rfl, Gr.mk (xg.h ++ h0) d0, by simp only [ext_ext, Gr.h_mk, Gr.d_mk, Array.append_assoc]⟩))) | quiet_step ((first | (rename_i xg; go_at_call 12; (with_reducible refine (Hf.out _).mono ?_); rintro _ _ ⟨rfl, h0, d0, rfl⟩; exact ⟨rfl, Gr.mk (xg.h ++ h0) d0, by simp only [ext_ext, Gr.h_mk, Gr.d_mk, Array.append_assoc]⟩) | (rename_i xg; go_at_call 11; (with_reducible refine (own_any _ _ _ _ _ _).mono ?_); rintro _ _ ⟨rfl, h0, d0, rfl⟩; exact ⟨rfl, Gr.mk (xg.h ++ h0) d0, by simp only [ext_ext, Gr.h_mk, Gr.d_mk, Array.append_assoc]⟩))))
  refine wpQuiet_nil ?_
  rintro _ ⟨g17, rfl⟩
  go_wp2_with fail
  refine abs_worldK (fun W => Grows w3 W) (by repeat' (first | (with_reducible exact Grows.refl _) | (with_reducible refine Grows.alloc ?_ _) | (with_reducible refine Grows.drew ?_) | (with_reducible refine Grows.ext ?_ _ _))) ?_
  clear f0 f1 f2 f3 f4 f5 d0 d1 d2 d3 d4 d5 d6 d7 d8
  rintro w4 hG4
  have HG4 := Lib.hid hG4
  clear hG4
  go_loopw [44] (fun i wr' => ∃ (wv : World) (k : Nat), wv = wr' ∧ k ≤ 2 ∧ i = .int .i64 k ∧ Grows w4 wv) (fun i _ => 2 - (intOf i).toNat)
  case atStart => exact ⟨_, 0, rfl, by omega, rfl, Grows.refl _⟩
  case round =>
    obtain ⟨wa, k, rfl, hk, rfl, hGa⟩ := hrel
    by_cases hk2 : k < 2
    · have e1 : decide ((k : Int) < 2) = true := by simp; omega
      obtain ⟨fr, fc, ft, fb, fo, hix⟩ := index31 r c t b (dR dr) (dC dc) (dT dr dt dl) (dB dr dt dl) o od k hk2
      obtain ⟨q, hq⟩ : ∃ q, q = okF fr fc ft fb := ⟨_, rfl⟩
      have hr0 := fun W => right_any fr fc ft fb fo W
      have hc0 := fun W => check_any fr fc ft fb fo W
      rw [← hq] at hr0 hc0
      have Hr := Lib.hid hr0
      have Hck := Lib.hid hc0
      have Hq := Lib.hid hq
      clear hr0 hc0 hq
      go_upto_region 8 with (first | (go_at_call 13; (with_reducible refine (ref_any _ _ _ _ _ _).mono ?_); rintro e w' ⟨rfl, h1, k1, rfl⟩) | (go_at_call 28; (with_reducible refine (Hr.out _).mono ?_); rintro e w' ⟨rfl, h2, k2, rfl⟩))
      refine abs_worldK (fun W => FldAt W wa.heap.size fr fc ft fb fo ∧ FldAt W (wa.heap.size + 1 + h1.size) fr fc ft fb fo ∧ Grows w4 W) ⟨⟨by simp [go_sem], by simp [go_sem], by simp [go_sem], by simp [go_sem], by simp [go_sem], by simp [go_sem]⟩, ⟨by simp [go_sem], by simp [go_sem], by simp [go_sem], by simp [go_sem], by simp [go_sem], by simp [go_sem]⟩, (by repeat' (first | (with_reducible exact hGa) | (with_reducible exact Grows.refl _) | (with_reducible refine Grows.alloc ?_ _) | (with_reducible refine Grows.drew ?_) | (with_reducible refine Grows.ext ?_ _ _)))⟩ ?_
      clear hGa
      rintro wb ⟨hF1, hF2, hGb⟩
      generalize wa.heap.size + 1 + h1.size = N14 at *
      generalize wa.heap.size = N13 at *
      have HF1 := Lib.hid hF1
      have HF2 := Lib.hid hF2
      have HGb := Lib.hid hGb
      obtain ⟨f0, f1, f2, f3, f4, f5⟩ := hF1
      obtain ⟨d0, d1, d2, d3, d4, d5, d6, d7, d8⟩ := HD3.out.grows (HG4.out.trans hGb)
      obtain ⟨c0, c1, c2, c3⟩ := HC3.out.grows (HG4.out.trans hGb)
      clear hF2 hGb
      cases q with
      | true =>
        have HFit := Lib.hid fun x y wr W => fit_any fr fc ft fb x y fo wr Hq.out.symm W
        go_upto_region 10 with (go_at_call 33; (with_reducible refine (Hck.out _).mono ?_); rintro e w' ⟨rfl, h3, k3, rfl⟩)
        refine wp_region_grow (by kernel_rfl) (by kernel_rfl) ?_
        repeat (first | go_big_quiet_step ((first | (rename_i xg; go_at_call 14; (with_reducible refine (Hd.out _).mono ?_); rintro _ _ ⟨rfl, h0, d0, rfl⟩; exact ⟨rfl, Gr.mk (xg.h ++ h0) d0, by simp only [ext_ext, Gr.h_mk, Gr.d_mk, Array.append_assoc]⟩))) | quiet_step ((first | (rename_i xg; go_at_call 14; (with_reducible refine (Hd.out _).mono ?_); rintro _ _ ⟨rfl, h0, d0, rfl⟩; exact ⟨rfl, Gr.mk (xg.h ++ h0) d0, by simp only [ext_ext, Gr.h_mk, Gr.d_mk, Array.append_assoc]⟩))))
        refine wpQuiet_nil ?_
        rintro _ ⟨g18, rfl⟩
        go_wp2_with fail
        refine abs_worldK (fun W => Grows wb W) (by repeat' (first | (with_reducible exact Grows.refl _) | (with_reducible refine Grows.alloc ?_ _) | (with_reducible refine Grows.drew ?_) | (with_reducible refine Grows.ext ?_ _ _))) ?_
        rintro wc hGc
        have HGc := Lib.hid hGc
        clear hGc f0 f1 f2 f3 f4 f5 d0 d1 d2 d3 d4 d5 d6 d7 d8 c0 c1 c2 c3
        go_loopw [69] (fun i wr' => ∃ (wv : World) (j : Nat), wv = wr' ∧ j ≤ 2 ∧ i = .int .i64 j ∧ Grows wc wv) (fun i _ => 2 - (intOf i).toNat)
        case atStart => exact ⟨_, 0, rfl, by omega, rfl, Grows.refl _⟩
        case round =>
          obtain ⟨wd, j, rfl, hj, rfl, hGd⟩ := hrel
          by_cases hj2 : j < 2
          · have e2 : decide ((j : Int) < 2) = true := by simp; omega
            obtain ⟨cx, cy, cw, hix2⟩ := index34 x y gx gy wr gw j hj2
            have Hat := Lib.hid (show ∀ W, Calls Try.prog 34 #[.agg #[.int .i64 fr, .int .i64 fc, .int .i64 ft, .int .i64 fb, .bool fo], .agg #[.int .i64 cx, .int .i64 cy, .bool cw]] W (Ret (.int .i64 (cErr true (atB fr fc cx cy cw))) W) from fun W => by rw [Hq.out]; exact checkAt_any fr fc ft fb cx cy fo cw W)
            have Hrat := Lib.hid (show ∀ W, Calls Try.prog 15 #[.agg #[.int .i64 fr, .int .i64 fc, .int .i64 ft, .int .i64 fb, .bool fo], .agg #[.int .i64 cx, .int .i64 cy, .bool cw]] W (Ret (.int .i64 (cErr true (atB fr fc cx cy cw))) W) from fun W => by rw [Hq.out]; exact rcheckAt_any fr fc ft fb cx cy fo cw W)
            have Hrf := Lib.hid fun W => rfit_any fr fc ft fb cx cy fo cw Hq.out.symm W
            have hF1 := HF1.out.grows (HGc.out.trans hGd)
            have hF2 := HF2.out.grows (HGc.out.trans hGd)
            obtain ⟨f0, f1, f2, f3, f4, f5⟩ := hF1
            obtain ⟨d0, d1, d2, d3, d4, d5⟩ := hF2
            go_upto_region 14 with (go_at_call 37; (with_reducible refine (HFit.out _ _ _ _).mono ?_); rintro e w' ⟨rfl, h4, k4, rfl⟩)
            refine wp_region_grow (by kernel_rfl) (by kernel_rfl) ?_
            repeat (first | go_big_quiet_step ((first | (rename_i xg; go_at_call 34; (with_reducible refine (Hat.out _).mono ?_); rintro _ _ ⟨rfl, h0, d0, rfl⟩; exact ⟨rfl, Gr.mk (xg.h ++ h0) d0, by simp only [ext_ext, Gr.h_mk, Gr.d_mk, Array.append_assoc]⟩) | (rename_i xg; go_at_call 15; (with_reducible refine (Hrat.out _).mono ?_); rintro _ _ ⟨rfl, h0, d0, rfl⟩; exact ⟨rfl, Gr.mk (xg.h ++ h0) d0, by simp only [ext_ext, Gr.h_mk, Gr.d_mk, Array.append_assoc]⟩) | (rename_i xg; go_at_call 38; (with_reducible refine (Hrf.out _).mono ?_); rintro _ _ ⟨rfl, h0, d0, rfl⟩; exact ⟨rfl, Gr.mk (xg.h ++ h0) d0, by simp only [ext_ext, Gr.h_mk, Gr.d_mk, Array.append_assoc]⟩))) | quiet_step ((first | (rename_i xg; go_at_call 34; (with_reducible refine (Hat.out _).mono ?_); rintro _ _ ⟨rfl, h0, d0, rfl⟩; exact ⟨rfl, Gr.mk (xg.h ++ h0) d0, by simp only [ext_ext, Gr.h_mk, Gr.d_mk, Array.append_assoc]⟩) | (rename_i xg; go_at_call 15; (with_reducible refine (Hrat.out _).mono ?_); rintro _ _ ⟨rfl, h0, d0, rfl⟩; exact ⟨rfl, Gr.mk (xg.h ++ h0) d0, by simp only [ext_ext, Gr.h_mk, Gr.d_mk, Array.append_assoc]⟩) | (rename_i xg; go_at_call 38; (with_reducible refine (Hrf.out _).mono ?_); rintro _ _ ⟨rfl, h0, d0, rfl⟩; exact ⟨rfl, Gr.mk (xg.h ++ h0) d0, by simp only [ext_ext, Gr.h_mk, Gr.d_mk, Array.append_assoc]⟩))))
            refine wpQuiet_nil ?_
            rintro _ ⟨g19, rfl⟩
            go_wp2_with fail
            go_roundw
            case rel => exact ⟨_, j + 1, rfl, by omega, by go_num, (by repeat' (first | (with_reducible exact hGd) | (with_reducible exact Grows.refl _) | (with_reducible refine Grows.alloc ?_ _) | (with_reducible refine Grows.drew ?_) | (with_reducible refine Grows.ext ?_ _ _)))⟩
            case measure => simp [intOf]; omega
          · have e2 : decide ((j : Int) < 2) = false := by simp; omega
            go_upto_region 17 with fail
            have hGx := HGc.out.trans hGd
            have hGy := HG4.out.trans (HGb.out.trans hGx)
            have R8d := Lib.hid (Grows.rowK R83.out hGy)
            have R11d := Lib.hid (Grows.rowK R113.out hGy)
            have HG6 := Lib.hid hGd
            obtain ⟨c0, c1, c2, c3⟩ := HC3.out.grows hGy
            clear hGx hGy hGd
            go_wp2_with (first | (refine wpList_buildTo rfl 83 #[(0, .tmp 113), (1, .tmp 114), (2, .tmp 115), (3, .tmp 117)] rfl (some 118) rfl #[.bool is, .int .i64 sx, .int .i64 sy, .bool sw, .int .i64 a, .int .i64 u, .int .i64 fk, .int .i64 fn, .int .i64 bk, .int .i64 bn, .int .i64 lk, .int .i64 ln, .int .i64 g0, .int .i64 g1, .int .i64 g2, .int .i64 g3, .int .i64 us, .int .i64 on, .bool og, .bool true, .int .i64 gx, .int .i64 gy, .bool gw, .int .i64 b8, .int .i64 0, .int .i64 0, .int .i64 0, .int .i64 0, .int .i64 0, .int .i64 0, .int .i64 0, .int .i64 (b8 % 2), .int .i64 (b8 / 2 % 2), .int .i64 (b8 / 4 % 2), .int .i64 (b8 / 8 % 2), .int .i64 (b8 / 16 % 2), .int .i64 (onceOf (b8 / 32 % 4)), .bool og, .bool false, .int .i64 0, .int .i64 0, .bool false, .int .i64 0, .int .i64 0, .int .i64 0, .int .i64 0, .int .i64 0, .int .i64 0, .int .i64 0, .int .i64 0, .int .i64 0, .int .i64 0, .int .i64 0, .int .i64 0, .int .i64 0, .int .i64 0, .bool false, .bool false, .int .i64 x, .int .i64 y, .bool wr, .int .i64 0, .int .i64 0, .int .i64 0, .int .i64 0, .int .i64 0, .int .i64 0, .int .i64 0, .int .i64 0, .int .i64 0, .int .i64 0, .int .i64 0, .int .i64 0, .int .i64 0, .int .i64 0, .bool false] (by kernel_rfl) ?_) | (refine wpList_load_row rfl 80 (.tmp 8) rfl N8 rfl 80 #[.bool is, .int .i64 sx, .int .i64 sy, .bool sw, .int .i64 a, .int .i64 u, .int .i64 fk, .int .i64 fn, .int .i64 bk, .int .i64 bn, .int .i64 lk, .int .i64 ln, .int .i64 g0, .int .i64 g1, .int .i64 g2, .int .i64 g3, .int .i64 us, .int .i64 on, .bool og] (0, 0) _ R8d.out Try.underlying80 rfl info80 ?_) | (refine wpList_load_row rfl 80 (.tmp 11) rfl N11 rfl 80 #[.bool true, .int .i64 gx, .int .i64 gy, .bool gw, .int .i64 b8, .int .i64 0, .int .i64 0, .int .i64 0, .int .i64 0, .int .i64 0, .int .i64 0, .int .i64 0, .int .i64 (b8 % 2), .int .i64 (b8 / 2 % 2), .int .i64 (b8 / 4 % 2), .int .i64 (b8 / 8 % 2), .int .i64 (b8 / 16 % 2), .int .i64 (onceOf (b8 / 32 % 4)), .bool og] (0, 0) _ R11d.out Try.underlying80 rfl info80 ?_))
            clear c0 c1 c2 c3 R8d R11d
            go_loopw [119] (fun i wr' => ∃ (wv : World) (m : Nat), wv = wr' ∧ m ≤ 4 ∧ i = .int .i64 m ∧ Grows wd wv) (fun i _ => 4 - (intOf i).toNat)
            case atStart => exact ⟨_, 0, rfl, by omega, rfl, (by repeat' (first | (with_reducible exact Grows.refl _) | (with_reducible refine Grows.alloc ?_ _) | (with_reducible refine Grows.drew ?_) | (with_reducible refine Grows.ext ?_ _ _)))⟩
            case round =>
              obtain ⟨we, m, rfl, hm, rfl, hGe⟩ := hrel
              by_cases hm4 : m < 4
              · have e3 : decide ((m : Int) < 4) = true := by simp; omega
                obtain ⟨iz, xz, yz, wz, az, uz, fkz, fnz, bkz, bnz, lkz, lnz, g0z, g1z, g2z, g3z, usz, onz, oz, ⟨hiz, huz⟩, hix3⟩ := index83 is sx sy sw a u fk fn bk bn lk ln g0 g1 g2 g3 us on og Hi.out Hu.out gx gy gw b8 h8 x y wr m hm4
                have h39 := fun W => fsaved_any fr fc ft fb fo iz xz yz wz az uz fkz fnz bkz bnz lkz lnz g0z g1z g2z g3z usz onz oz hiz huz W
                have h40 := fun W => rfsaved_any fr fc ft fb fo iz xz yz wz az uz fkz fnz bkz bnz lkz lnz g0z g1z g2z g3z usz onz oz hiz W
                obtain ⟨jn, xn, yn, wn, an, un, fkn, fnn, bkn, bnn, lkn, lnn, g0n, g1n, g2n, g3n, usn, onn, on_, hrn⟩ := fsRow_form (fsOk (okF fr fc ft fb) iz (svB fr fc true (cl xz 0 (fr - 1)) (cl yz 0 (fc - 1)) (wz && yz == fc - 1) az uz fkz fnz bkz bnz lkz lnz g0z g1z g2z g3z usz onz oz)) (cl xz 0 (fr - 1)) (cl yz 0 (fc - 1)) (wz && yz == fc - 1) az uz fkz fnz bkz bnz lkz lnz g0z g1z g2z g3z usz onz oz
                rw [hrn] at h39 h40
                obtain ⟨en, hen⟩ : ∃ en, en = fsErr (okF fr fc ft fb) iz (svB fr fc true (cl xz 0 (fr - 1)) (cl yz 0 (fc - 1)) (wz && yz == fc - 1) az uz fkz fnz bkz bnz lkz lnz g0z g1z g2z g3z usz onz oz) := ⟨_, rfl⟩
                rw [← hen] at h39 h40
                have H39 := Lib.hid h39
                have H40 := Lib.hid h40
                have h41 := fun W => saved_any fr fc ft fb fo iz xz yz wz az uz fkz fnz bkz bnz lkz lnz g0z g1z g2z g3z usz onz oz Hq.out.symm hiz W
                have h42 := fun W => csaved_any fr fc ft fb fo iz xz yz wz az uz fkz fnz bkz bnz lkz lnz g0z g1z g2z g3z usz onz oz Hq.out.symm hiz huz W
                obtain ⟨v0, hv0⟩ : ∃ v, v = svB fr fc iz xz yz wz az uz fkz fnz bkz bnz lkz lnz g0z g1z g2z g3z usz onz oz := ⟨_, rfl⟩
                rw [← hv0] at h41 h42
                have H41 := Lib.hid h41
                have H42 := Lib.hid h42
                clear h41 h42 hv0
                have hF1 := HF1.out.grows (HGc.out.trans (HG6.out.trans hGe))
                have hF2 := HF2.out.grows (HGc.out.trans (HG6.out.trans hGe))
                have HFa := Lib.hid hF1
                have HFb := Lib.hid hF2
                have HGe := Lib.hid hGe
                clear h39 h40 hrn hen hF1 hF2 hGe hiz huz
                go_upto_region 20 with (refine wpList_store_row rfl 80 (.tmp 21) (.tmp 121) rfl we.heap.size #[.bool iz, .int .i64 xz, .int .i64 yz, .bool wz, .int .i64 az, .int .i64 uz, .int .i64 fkz, .int .i64 fnz, .int .i64 bkz, .int .i64 bnz, .int .i64 lkz, .int .i64 lnz, .int .i64 g0z, .int .i64 g1z, .int .i64 g2z, .int .i64 g3z, .int .i64 usz, .int .i64 onz, .bool oz] rfl rfl 80 #[.bool false, .int .i64 0, .int .i64 0, .bool false, .int .i64 0, .int .i64 0, .int .i64 0, .int .i64 0, .int .i64 0, .int .i64 0, .int .i64 0, .int .i64 0, .int .i64 0, .int .i64 0, .int .i64 0, .int .i64 0, .int .i64 0, .int .i64 0, .bool false] (heap_alloc_new we _) info80 rfl (oneCells iz xz yz wz az uz fkz fnz bkz bnz lkz lnz g0z g1z g2z g3z usz onz oz) ?_)
                refine abs_worldK (fun W => Grows we W ∧ W.heap[we.heap.size]? = some (.cells #[.bool iz, .int .i64 xz, .int .i64 yz, .bool wz, .int .i64 az, .int .i64 uz, .int .i64 fkz, .int .i64 fnz, .int .i64 bkz, .int .i64 bnz, .int .i64 lkz, .int .i64 lnz, .int .i64 g0z, .int .i64 g1z, .int .i64 g2z, .int .i64 g3z, .int .i64 usz, .int .i64 onz, .bool oz] 80 (0, 0))) ⟨((Grows.refl we).alloc _).setRowK (Nat.le_refl _) _, setRow_heap _ _ _ _ _ _ (heap_alloc_new we _)⟩ ?_
                rintro w5 ⟨hG5, R21⟩
                have HFc := Lib.hid (HFa.out.grows hG5)
                have HFd := Lib.hid (HFb.out.grows hG5)
                have HG5 := Lib.hid (HGe.out.trans hG5)
                have R21h := Lib.hid R21
                generalize we.heap.size = N21 at *
                obtain ⟨f0, f1, f2, f3, f4, f5⟩ := HFc.out
                clear hG5 R21 HFa HFb hix3
                go_upto_region 21 with (first | (refine wpList_load_row rfl 80 (.tmp 21) rfl N21 rfl 80 #[.bool iz, .int .i64 xz, .int .i64 yz, .bool wz, .int .i64 az, .int .i64 uz, .int .i64 fkz, .int .i64 fnz, .int .i64 bkz, .int .i64 bnz, .int .i64 lkz, .int .i64 lnz, .int .i64 g0z, .int .i64 g1z, .int .i64 g2z, .int .i64 g3z, .int .i64 usz, .int .i64 onz, .bool oz] (0, 0) _ R21h.out Try.underlying80 rfl info80 ?_) | (go_at_call 39; (with_reducible refine (H39.out _).mono ?_); rintro e w' ⟨rfl, h5, k5, rfl⟩) | (refine wpList_store_row rfl 80 (.tmp 22) (.tmp 126) rfl (w5.heap.size + h5.size) #[.bool jn, .int .i64 xn, .int .i64 yn, .bool wn, .int .i64 an, .int .i64 un, .int .i64 fkn, .int .i64 fnn, .int .i64 bkn, .int .i64 bnn, .int .i64 lkn, .int .i64 lnn, .int .i64 g0n, .int .i64 g1n, .int .i64 g2n, .int .i64 g3n, .int .i64 usn, .int .i64 onn, .bool on_] rfl rfl 80 #[.bool false, .int .i64 0, .int .i64 0, .bool false, .int .i64 0, .int .i64 0, .int .i64 0, .int .i64 0, .int .i64 0, .int .i64 0, .int .i64 0, .int .i64 0, .int .i64 0, .int .i64 0, .int .i64 0, .int .i64 0, .int .i64 0, .int .i64 0, .bool false] rowE info80 rfl (oneCells jn xn yn wn an un fkn fnn bkn bnn lkn lnn g0n g1n g2n g3n usn onn on_) ?_))
                refine abs_worldK (fun W => Grows w5 W ∧ W.heap[w5.heap.size + h5.size]? = some (.cells #[.bool jn, .int .i64 xn, .int .i64 yn, .bool wn, .int .i64 an, .int .i64 un, .int .i64 fkn, .int .i64 fnn, .int .i64 bkn, .int .i64 bnn, .int .i64 lkn, .int .i64 lnn, .int .i64 g0n, .int .i64 g1n, .int .i64 g2n, .int .i64 g3n, .int .i64 usn, .int .i64 onn, .bool on_] 80 (0, 0))) ⟨(((Grows.refl w5).ext h5 k5).alloc _).setRowK (Nat.le_add_right _ _) _, setRow_heap _ _ _ _ _ _ rowE⟩ ?_
                clear f0 f1 f2 f3 f4 f5
                rintro w6 ⟨hG6, R22⟩
                generalize w5.heap.size + h5.size = N22 at *
                have HFe := Lib.hid (HFc.out.grows hG6)
                have HFf := Lib.hid (HFd.out.grows hG6)
                have HG8 := Lib.hid (HG5.out.trans hG6)
                have R21i := Lib.hid (Grows.rowK R21h.out hG6)
                have R22h := Lib.hid R22
                obtain ⟨f0, f1, f2, f3, f4, f5⟩ := HFf.out
                clear hG6 R22 HFc HFd HG5 R21h
                go_upto_region 22 with (first | (refine wpList_load_row rfl 80 (.tmp 21) rfl N21 rfl 80 #[.bool iz, .int .i64 xz, .int .i64 yz, .bool wz, .int .i64 az, .int .i64 uz, .int .i64 fkz, .int .i64 fnz, .int .i64 bkz, .int .i64 bnz, .int .i64 lkz, .int .i64 lnz, .int .i64 g0z, .int .i64 g1z, .int .i64 g2z, .int .i64 g3z, .int .i64 usz, .int .i64 onz, .bool oz] (0, 0) _ R21i.out Try.underlying80 rfl info80 ?_) | (go_at_call 40; (with_reducible refine (H40.out _).mono ?_); rintro e w' ⟨rfl, h6, k6, rfl⟩) | (refine wpList_store_row rfl 80 (.tmp 24) (.tmp 132) rfl (w6.heap.size + h6.size) #[.bool jn, .int .i64 xn, .int .i64 yn, .bool wn, .int .i64 an, .int .i64 un, .int .i64 fkn, .int .i64 fnn, .int .i64 bkn, .int .i64 bnn, .int .i64 lkn, .int .i64 lnn, .int .i64 g0n, .int .i64 g1n, .int .i64 g2n, .int .i64 g3n, .int .i64 usn, .int .i64 onn, .bool on_] rfl rfl 80 #[.bool false, .int .i64 0, .int .i64 0, .bool false, .int .i64 0, .int .i64 0, .int .i64 0, .int .i64 0, .int .i64 0, .int .i64 0, .int .i64 0, .int .i64 0, .int .i64 0, .int .i64 0, .int .i64 0, .int .i64 0, .int .i64 0, .int .i64 0, .bool false] rowE info80 rfl (oneCells jn xn yn wn an un fkn fnn bkn bnn lkn lnn g0n g1n g2n g3n usn onn on_) ?_))
                refine abs_worldK (fun W => Grows w6 W ∧ W.heap[w6.heap.size + h6.size]? = some (.cells #[.bool jn, .int .i64 xn, .int .i64 yn, .bool wn, .int .i64 an, .int .i64 un, .int .i64 fkn, .int .i64 fnn, .int .i64 bkn, .int .i64 bnn, .int .i64 lkn, .int .i64 lnn, .int .i64 g0n, .int .i64 g1n, .int .i64 g2n, .int .i64 g3n, .int .i64 usn, .int .i64 onn, .bool on_] 80 (0, 0))) ⟨(((Grows.refl w6).ext h6 k6).alloc _).setRowK (Nat.le_add_right _ _) _, setRow_heap _ _ _ _ _ _ rowE⟩ ?_
                clear f0 f1 f2 f3 f4 f5
                rintro w7 ⟨hG7, R24⟩
                generalize w6.heap.size + h6.size = N24 at *
                have hFg := HFe.out.grows hG7
                have hFh := HFf.out.grows hG7
                have hG9 := HG8.out.trans hG7
                have R21j := Lib.hid (Grows.rowK R21i.out hG7)
                have R22i := Lib.hid (Grows.rowK R22h.out hG7)
                have R24h := Lib.hid R24
                obtain ⟨f0, f1, f2, f3, f4, f5⟩ := hFg
                obtain ⟨d0, d1, d2, d3, d4, d5⟩ := hFh
                clear hG7 R24 HFe HFf HG8 R21i H39 H40
                have hqq := sav_eq
                have hss := savQ_self
                cases v0 with
                | true =>
                  go_upto_region 27 with (first | (refine wpList_load_row rfl 80 (.tmp 21) rfl N21 rfl 80 #[.bool iz, .int .i64 xz, .int .i64 yz, .bool wz, .int .i64 az, .int .i64 uz, .int .i64 fkz, .int .i64 fnz, .int .i64 bkz, .int .i64 bnz, .int .i64 lkz, .int .i64 lnz, .int .i64 g0z, .int .i64 g1z, .int .i64 g2z, .int .i64 g3z, .int .i64 usz, .int .i64 onz, .bool oz] (0, 0) _ R21j.out Try.underlying80 rfl info80 ?_) | (go_at_call 41; (with_reducible refine (H41.out _).mono ?_); rintro e w' ⟨rfl, h7, k7, rfl⟩))
                  go_wp2_with (first | (refine wpList_load_row rfl 80 (.tmp 22) rfl N22 rfl 80 #[.bool jn, .int .i64 xn, .int .i64 yn, .bool wn, .int .i64 an, .int .i64 un, .int .i64 fkn, .int .i64 fnn, .int .i64 bkn, .int .i64 bnn, .int .i64 lkn, .int .i64 lnn, .int .i64 g0n, .int .i64 g1n, .int .i64 g2n, .int .i64 g3n, .int .i64 usn, .int .i64 onn, .bool on_] (0, 0) _ (Grows.rowK R22i.out ((Grows.refl _).ext _ _)) Try.underlying80 rfl info80 ?_) | (refine wpList_load_row rfl 80 (.tmp 24) rfl N24 rfl 80 #[.bool jn, .int .i64 xn, .int .i64 yn, .bool wn, .int .i64 an, .int .i64 un, .int .i64 fkn, .int .i64 fnn, .int .i64 bkn, .int .i64 bnn, .int .i64 lkn, .int .i64 lnn, .int .i64 g0n, .int .i64 g1n, .int .i64 g2n, .int .i64 g3n, .int .i64 usn, .int .i64 onn, .bool on_] (0, 0) _ (Grows.rowK R24h.out ((Grows.refl _).ext _ _)) Try.underlying80 rfl info80 ?_) | (refine wpList_load_rowW (by kernel_rfl) 80 (.tmp 21) rfl N21 rfl 80 #[.bool iz, .int .i64 xz, .int .i64 yz, .bool wz, .int .i64 az, .int .i64 uz, .int .i64 fkz, .int .i64 fnz, .int .i64 bkz, .int .i64 bnz, .int .i64 lkz, .int .i64 lnz, .int .i64 g0z, .int .i64 g1z, .int .i64 g2z, .int .i64 g3z, .int .i64 usz, .int .i64 onz, .bool oz] (0, 0) _ (Grows.rowK R21j.out ((Grows.refl _).ext _ _)) Try.underlying80 rfl info80 ?_) | (go_at_call 42; (with_reducible refine (H42.out _).mono ?_); rintro e w' ⟨rfl, h8, k8, rfl⟩))
                  go_roundw
                  case rel => exact ⟨_, m + 1, rfl, by omega, by go_num, (by repeat' (first | (with_reducible exact hG9) | (with_reducible exact Grows.refl _) | (with_reducible refine Grows.alloc ?_ _) | (with_reducible refine Grows.drew ?_) | (with_reducible refine Grows.ext ?_ _ _)))⟩
                  case measure => simp [intOf]; omega
                | false =>
                  go_upto_region 27 with (first | (refine wpList_load_row rfl 80 (.tmp 21) rfl N21 rfl 80 #[.bool iz, .int .i64 xz, .int .i64 yz, .bool wz, .int .i64 az, .int .i64 uz, .int .i64 fkz, .int .i64 fnz, .int .i64 bkz, .int .i64 bnz, .int .i64 lkz, .int .i64 lnz, .int .i64 g0z, .int .i64 g1z, .int .i64 g2z, .int .i64 g3z, .int .i64 usz, .int .i64 onz, .bool oz] (0, 0) _ R21j.out Try.underlying80 rfl info80 ?_) | (go_at_call 41; (with_reducible refine (H41.out _).mono ?_); rintro e w' ⟨rfl, h7, k7, rfl⟩))
                  go_wp2_with (first | (refine wpList_load_row rfl 80 (.tmp 22) rfl N22 rfl 80 #[.bool jn, .int .i64 xn, .int .i64 yn, .bool wn, .int .i64 an, .int .i64 un, .int .i64 fkn, .int .i64 fnn, .int .i64 bkn, .int .i64 bnn, .int .i64 lkn, .int .i64 lnn, .int .i64 g0n, .int .i64 g1n, .int .i64 g2n, .int .i64 g3n, .int .i64 usn, .int .i64 onn, .bool on_] (0, 0) _ (Grows.rowK R22i.out ((Grows.refl _).ext _ _)) Try.underlying80 rfl info80 ?_) | (refine wpList_load_row rfl 80 (.tmp 24) rfl N24 rfl 80 #[.bool jn, .int .i64 xn, .int .i64 yn, .bool wn, .int .i64 an, .int .i64 un, .int .i64 fkn, .int .i64 fnn, .int .i64 bkn, .int .i64 bnn, .int .i64 lkn, .int .i64 lnn, .int .i64 g0n, .int .i64 g1n, .int .i64 g2n, .int .i64 g3n, .int .i64 usn, .int .i64 onn, .bool on_] (0, 0) _ (Grows.rowK R24h.out ((Grows.refl _).ext _ _)) Try.underlying80 rfl info80 ?_) | (refine wpList_load_rowW (by kernel_rfl) 80 (.tmp 21) rfl N21 rfl 80 #[.bool iz, .int .i64 xz, .int .i64 yz, .bool wz, .int .i64 az, .int .i64 uz, .int .i64 fkz, .int .i64 fnz, .int .i64 bkz, .int .i64 bnz, .int .i64 lkz, .int .i64 lnz, .int .i64 g0z, .int .i64 g1z, .int .i64 g2z, .int .i64 g3z, .int .i64 usz, .int .i64 onz, .bool oz] (0, 0) _ (Grows.rowK R21j.out ((Grows.refl _).ext _ _)) Try.underlying80 rfl info80 ?_) | (go_at_call 42; (with_reducible refine (H42.out _).mono ?_); rintro e w' ⟨rfl, h8, k8, rfl⟩))
                  go_roundw
                  case rel => exact ⟨_, m + 1, rfl, by omega, by go_num, (by repeat' (first | (with_reducible exact hG9) | (with_reducible exact Grows.refl _) | (with_reducible refine Grows.alloc ?_ _) | (with_reducible refine Grows.drew ?_) | (with_reducible refine Grows.ext ?_ _ _)))⟩
                  case measure => simp [intOf]; omega
              · have e3 : decide ((m : Int) < 4) = false := by simp; omega
                have hG7 := (HGb.out.trans HGc.out).trans (HG6.out.trans hGe)
                go_wp2_with fail
                go_roundw
                case rel => exact ⟨_, k + 1, rfl, by omega, by go_num, (by repeat' (first | (with_reducible exact hG7) | (with_reducible exact Grows.refl _) | (with_reducible refine Grows.alloc ?_ _) | (with_reducible refine Grows.drew ?_) | (with_reducible refine Grows.ext ?_ _ _)))⟩
                case measure => simp [intOf]; omega
      | false =>
        have HFit := Lib.hid fun x y wr W => fit_no fr fc ft fb x y fo wr Hq.out.symm W
        go_upto_region 10 with (go_at_call 33; (with_reducible refine (Hck.out _).mono ?_); rintro e w' ⟨rfl, h3, k3, rfl⟩)
        refine wp_region_grow (by kernel_rfl) (by kernel_rfl) ?_
        repeat (first | go_big_quiet_step ((first | (rename_i xg; go_at_call 14; (with_reducible refine (Hd.out _).mono ?_); rintro _ _ ⟨rfl, h0, d0, rfl⟩; exact ⟨rfl, Gr.mk (xg.h ++ h0) d0, by simp only [ext_ext, Gr.h_mk, Gr.d_mk, Array.append_assoc]⟩))) | quiet_step ((first | (rename_i xg; go_at_call 14; (with_reducible refine (Hd.out _).mono ?_); rintro _ _ ⟨rfl, h0, d0, rfl⟩; exact ⟨rfl, Gr.mk (xg.h ++ h0) d0, by simp only [ext_ext, Gr.h_mk, Gr.d_mk, Array.append_assoc]⟩))))
        refine wpQuiet_nil ?_
        rintro _ ⟨g20, rfl⟩
        go_wp2_with fail
        refine abs_worldK (fun W => Grows wb W) (by repeat' (first | (with_reducible exact Grows.refl _) | (with_reducible refine Grows.alloc ?_ _) | (with_reducible refine Grows.drew ?_) | (with_reducible refine Grows.ext ?_ _ _))) ?_
        rintro wc hGc
        have HGc := Lib.hid hGc
        clear hGc f0 f1 f2 f3 f4 f5 d0 d1 d2 d3 d4 d5 d6 d7 d8 c0 c1 c2 c3
        go_loopw [69] (fun i wr' => ∃ (wv : World) (j : Nat), wv = wr' ∧ j ≤ 2 ∧ i = .int .i64 j ∧ Grows wc wv) (fun i _ => 2 - (intOf i).toNat)
        case atStart => exact ⟨_, 0, rfl, by omega, rfl, Grows.refl _⟩
        case round =>
          obtain ⟨wd, j, rfl, hj, rfl, hGd⟩ := hrel
          by_cases hj2 : j < 2
          · have e2 : decide ((j : Int) < 2) = true := by simp; omega
            obtain ⟨cx, cy, cw, hix2⟩ := index34 x y gx gy wr gw j hj2
            have Hat := Lib.hid (show ∀ W, Calls Try.prog 34 #[.agg #[.int .i64 fr, .int .i64 fc, .int .i64 ft, .int .i64 fb, .bool fo], .agg #[.int .i64 cx, .int .i64 cy, .bool cw]] W (Ret (.int .i64 (cErr false (atB fr fc cx cy cw))) W) from fun W => by rw [Hq.out]; exact checkAt_any fr fc ft fb cx cy fo cw W)
            have Hrat := Lib.hid (show ∀ W, Calls Try.prog 15 #[.agg #[.int .i64 fr, .int .i64 fc, .int .i64 ft, .int .i64 fb, .bool fo], .agg #[.int .i64 cx, .int .i64 cy, .bool cw]] W (Ret (.int .i64 (cErr false (atB fr fc cx cy cw))) W) from fun W => by rw [Hq.out]; exact rcheckAt_any fr fc ft fb cx cy fo cw W)
            have hF1 := HF1.out.grows (HGc.out.trans hGd)
            have hF2 := HF2.out.grows (HGc.out.trans hGd)
            obtain ⟨f0, f1, f2, f3, f4, f5⟩ := hF1
            obtain ⟨d0, d1, d2, d3, d4, d5⟩ := hF2
            go_upto_region 14 with (go_at_call 37; (with_reducible refine (HFit.out _ _ _ _).mono ?_); rintro e w' ⟨rfl, h4, k4, rfl⟩)
            refine wp_region_grow (by kernel_rfl) (by kernel_rfl) ?_
            repeat (first | go_big_quiet_step ((first | (rename_i xg; go_at_call 34; (with_reducible refine (Hat.out _).mono ?_); rintro _ _ ⟨rfl, h0, d0, rfl⟩; exact ⟨rfl, Gr.mk (xg.h ++ h0) d0, by simp only [ext_ext, Gr.h_mk, Gr.d_mk, Array.append_assoc]⟩) | (rename_i xg; go_at_call 15; (with_reducible refine (Hrat.out _).mono ?_); rintro _ _ ⟨rfl, h0, d0, rfl⟩; exact ⟨rfl, Gr.mk (xg.h ++ h0) d0, by simp only [ext_ext, Gr.h_mk, Gr.d_mk, Array.append_assoc]⟩))) | quiet_step ((first | (rename_i xg; go_at_call 34; (with_reducible refine (Hat.out _).mono ?_); rintro _ _ ⟨rfl, h0, d0, rfl⟩; exact ⟨rfl, Gr.mk (xg.h ++ h0) d0, by simp only [ext_ext, Gr.h_mk, Gr.d_mk, Array.append_assoc]⟩) | (rename_i xg; go_at_call 15; (with_reducible refine (Hrat.out _).mono ?_); rintro _ _ ⟨rfl, h0, d0, rfl⟩; exact ⟨rfl, Gr.mk (xg.h ++ h0) d0, by simp only [ext_ext, Gr.h_mk, Gr.d_mk, Array.append_assoc]⟩))))
            refine wpQuiet_nil ?_
            rintro _ ⟨g21, rfl⟩
            go_wp2_with fail
            go_roundw
            case rel => exact ⟨_, j + 1, rfl, by omega, by go_num, (by repeat' (first | (with_reducible exact hGd) | (with_reducible exact Grows.refl _) | (with_reducible refine Grows.alloc ?_ _) | (with_reducible refine Grows.drew ?_) | (with_reducible refine Grows.ext ?_ _ _)))⟩
            case measure => simp [intOf]; omega
          · have e2 : decide ((j : Int) < 2) = false := by simp; omega
            go_upto_region 17 with fail
            have hGx := HGc.out.trans hGd
            have hGy := HG4.out.trans (HGb.out.trans hGx)
            have R8d := Lib.hid (Grows.rowK R83.out hGy)
            have R11d := Lib.hid (Grows.rowK R113.out hGy)
            have HG6 := Lib.hid hGd
            obtain ⟨c0, c1, c2, c3⟩ := HC3.out.grows hGy
            clear hGx hGy hGd
            go_wp2_with (first | (refine wpList_buildTo rfl 83 #[(0, .tmp 113), (1, .tmp 114), (2, .tmp 115), (3, .tmp 117)] rfl (some 118) rfl #[.bool is, .int .i64 sx, .int .i64 sy, .bool sw, .int .i64 a, .int .i64 u, .int .i64 fk, .int .i64 fn, .int .i64 bk, .int .i64 bn, .int .i64 lk, .int .i64 ln, .int .i64 g0, .int .i64 g1, .int .i64 g2, .int .i64 g3, .int .i64 us, .int .i64 on, .bool og, .bool true, .int .i64 gx, .int .i64 gy, .bool gw, .int .i64 b8, .int .i64 0, .int .i64 0, .int .i64 0, .int .i64 0, .int .i64 0, .int .i64 0, .int .i64 0, .int .i64 (b8 % 2), .int .i64 (b8 / 2 % 2), .int .i64 (b8 / 4 % 2), .int .i64 (b8 / 8 % 2), .int .i64 (b8 / 16 % 2), .int .i64 (onceOf (b8 / 32 % 4)), .bool og, .bool false, .int .i64 0, .int .i64 0, .bool false, .int .i64 0, .int .i64 0, .int .i64 0, .int .i64 0, .int .i64 0, .int .i64 0, .int .i64 0, .int .i64 0, .int .i64 0, .int .i64 0, .int .i64 0, .int .i64 0, .int .i64 0, .int .i64 0, .bool false, .bool false, .int .i64 x, .int .i64 y, .bool wr, .int .i64 0, .int .i64 0, .int .i64 0, .int .i64 0, .int .i64 0, .int .i64 0, .int .i64 0, .int .i64 0, .int .i64 0, .int .i64 0, .int .i64 0, .int .i64 0, .int .i64 0, .int .i64 0, .bool false] (by kernel_rfl) ?_) | (refine wpList_load_row rfl 80 (.tmp 8) rfl N8 rfl 80 #[.bool is, .int .i64 sx, .int .i64 sy, .bool sw, .int .i64 a, .int .i64 u, .int .i64 fk, .int .i64 fn, .int .i64 bk, .int .i64 bn, .int .i64 lk, .int .i64 ln, .int .i64 g0, .int .i64 g1, .int .i64 g2, .int .i64 g3, .int .i64 us, .int .i64 on, .bool og] (0, 0) _ R8d.out Try.underlying80 rfl info80 ?_) | (refine wpList_load_row rfl 80 (.tmp 11) rfl N11 rfl 80 #[.bool true, .int .i64 gx, .int .i64 gy, .bool gw, .int .i64 b8, .int .i64 0, .int .i64 0, .int .i64 0, .int .i64 0, .int .i64 0, .int .i64 0, .int .i64 0, .int .i64 (b8 % 2), .int .i64 (b8 / 2 % 2), .int .i64 (b8 / 4 % 2), .int .i64 (b8 / 8 % 2), .int .i64 (b8 / 16 % 2), .int .i64 (onceOf (b8 / 32 % 4)), .bool og] (0, 0) _ R11d.out Try.underlying80 rfl info80 ?_))
            clear c0 c1 c2 c3 R8d R11d
            go_loopw [119] (fun i wr' => ∃ (wv : World) (m : Nat), wv = wr' ∧ m ≤ 4 ∧ i = .int .i64 m ∧ Grows wd wv) (fun i _ => 4 - (intOf i).toNat)
            case atStart => exact ⟨_, 0, rfl, by omega, rfl, (by repeat' (first | (with_reducible exact Grows.refl _) | (with_reducible refine Grows.alloc ?_ _) | (with_reducible refine Grows.drew ?_) | (with_reducible refine Grows.ext ?_ _ _)))⟩
            case round =>
              obtain ⟨we, m, rfl, hm, rfl, hGe⟩ := hrel
              by_cases hm4 : m < 4
              · have e3 : decide ((m : Int) < 4) = true := by simp; omega
                obtain ⟨iz, xz, yz, wz, az, uz, fkz, fnz, bkz, bnz, lkz, lnz, g0z, g1z, g2z, g3z, usz, onz, oz, ⟨hiz, huz⟩, hix3⟩ := index83 is sx sy sw a u fk fn bk bn lk ln g0 g1 g2 g3 us on og Hi.out Hu.out gx gy gw b8 h8 x y wr m hm4
                have h39 := fun W => fsaved_any fr fc ft fb fo iz xz yz wz az uz fkz fnz bkz bnz lkz lnz g0z g1z g2z g3z usz onz oz hiz huz W
                have h40 := fun W => rfsaved_any fr fc ft fb fo iz xz yz wz az uz fkz fnz bkz bnz lkz lnz g0z g1z g2z g3z usz onz oz hiz W
                obtain ⟨jn, xn, yn, wn, an, un, fkn, fnn, bkn, bnn, lkn, lnn, g0n, g1n, g2n, g3n, usn, onn, on_, hrn⟩ := fsRow_form (fsOk (okF fr fc ft fb) iz (svB fr fc true (cl xz 0 (fr - 1)) (cl yz 0 (fc - 1)) (wz && yz == fc - 1) az uz fkz fnz bkz bnz lkz lnz g0z g1z g2z g3z usz onz oz)) (cl xz 0 (fr - 1)) (cl yz 0 (fc - 1)) (wz && yz == fc - 1) az uz fkz fnz bkz bnz lkz lnz g0z g1z g2z g3z usz onz oz
                rw [hrn] at h39 h40
                obtain ⟨en, hen⟩ : ∃ en, en = fsErr (okF fr fc ft fb) iz (svB fr fc true (cl xz 0 (fr - 1)) (cl yz 0 (fc - 1)) (wz && yz == fc - 1) az uz fkz fnz bkz bnz lkz lnz g0z g1z g2z g3z usz onz oz) := ⟨_, rfl⟩
                rw [← hen] at h39 h40
                have H39 := Lib.hid h39
                have H40 := Lib.hid h40
                have H42 := Lib.hid fun W => csaved_no fr fc ft fb fo iz xz yz wz az uz fkz fnz bkz bnz lkz lnz g0z g1z g2z g3z usz onz oz Hq.out.symm W
                have hF1 := HF1.out.grows (HGc.out.trans (HG6.out.trans hGe))
                have hF2 := HF2.out.grows (HGc.out.trans (HG6.out.trans hGe))
                have HFa := Lib.hid hF1
                have HFb := Lib.hid hF2
                have HGe := Lib.hid hGe
                clear h39 h40 hrn hen hF1 hF2 hGe hiz huz
                go_upto_region 20 with (refine wpList_store_row rfl 80 (.tmp 21) (.tmp 121) rfl we.heap.size #[.bool iz, .int .i64 xz, .int .i64 yz, .bool wz, .int .i64 az, .int .i64 uz, .int .i64 fkz, .int .i64 fnz, .int .i64 bkz, .int .i64 bnz, .int .i64 lkz, .int .i64 lnz, .int .i64 g0z, .int .i64 g1z, .int .i64 g2z, .int .i64 g3z, .int .i64 usz, .int .i64 onz, .bool oz] rfl rfl 80 #[.bool false, .int .i64 0, .int .i64 0, .bool false, .int .i64 0, .int .i64 0, .int .i64 0, .int .i64 0, .int .i64 0, .int .i64 0, .int .i64 0, .int .i64 0, .int .i64 0, .int .i64 0, .int .i64 0, .int .i64 0, .int .i64 0, .int .i64 0, .bool false] (heap_alloc_new we _) info80 rfl (oneCells iz xz yz wz az uz fkz fnz bkz bnz lkz lnz g0z g1z g2z g3z usz onz oz) ?_)
                refine abs_worldK (fun W => Grows we W ∧ W.heap[we.heap.size]? = some (.cells #[.bool iz, .int .i64 xz, .int .i64 yz, .bool wz, .int .i64 az, .int .i64 uz, .int .i64 fkz, .int .i64 fnz, .int .i64 bkz, .int .i64 bnz, .int .i64 lkz, .int .i64 lnz, .int .i64 g0z, .int .i64 g1z, .int .i64 g2z, .int .i64 g3z, .int .i64 usz, .int .i64 onz, .bool oz] 80 (0, 0))) ⟨((Grows.refl we).alloc _).setRowK (Nat.le_refl _) _, setRow_heap _ _ _ _ _ _ (heap_alloc_new we _)⟩ ?_
                rintro w5 ⟨hG5, R21⟩
                have HFc := Lib.hid (HFa.out.grows hG5)
                have HFd := Lib.hid (HFb.out.grows hG5)
                have HG5 := Lib.hid (HGe.out.trans hG5)
                have R21h := Lib.hid R21
                generalize we.heap.size = N21 at *
                obtain ⟨f0, f1, f2, f3, f4, f5⟩ := HFc.out
                clear hG5 R21 HFa HFb hix3
                go_upto_region 21 with (first | (refine wpList_load_row rfl 80 (.tmp 21) rfl N21 rfl 80 #[.bool iz, .int .i64 xz, .int .i64 yz, .bool wz, .int .i64 az, .int .i64 uz, .int .i64 fkz, .int .i64 fnz, .int .i64 bkz, .int .i64 bnz, .int .i64 lkz, .int .i64 lnz, .int .i64 g0z, .int .i64 g1z, .int .i64 g2z, .int .i64 g3z, .int .i64 usz, .int .i64 onz, .bool oz] (0, 0) _ R21h.out Try.underlying80 rfl info80 ?_) | (go_at_call 39; (with_reducible refine (H39.out _).mono ?_); rintro e w' ⟨rfl, h5, k5, rfl⟩) | (refine wpList_store_row rfl 80 (.tmp 22) (.tmp 126) rfl (w5.heap.size + h5.size) #[.bool jn, .int .i64 xn, .int .i64 yn, .bool wn, .int .i64 an, .int .i64 un, .int .i64 fkn, .int .i64 fnn, .int .i64 bkn, .int .i64 bnn, .int .i64 lkn, .int .i64 lnn, .int .i64 g0n, .int .i64 g1n, .int .i64 g2n, .int .i64 g3n, .int .i64 usn, .int .i64 onn, .bool on_] rfl rfl 80 #[.bool false, .int .i64 0, .int .i64 0, .bool false, .int .i64 0, .int .i64 0, .int .i64 0, .int .i64 0, .int .i64 0, .int .i64 0, .int .i64 0, .int .i64 0, .int .i64 0, .int .i64 0, .int .i64 0, .int .i64 0, .int .i64 0, .int .i64 0, .bool false] rowE info80 rfl (oneCells jn xn yn wn an un fkn fnn bkn bnn lkn lnn g0n g1n g2n g3n usn onn on_) ?_))
                refine abs_worldK (fun W => Grows w5 W ∧ W.heap[w5.heap.size + h5.size]? = some (.cells #[.bool jn, .int .i64 xn, .int .i64 yn, .bool wn, .int .i64 an, .int .i64 un, .int .i64 fkn, .int .i64 fnn, .int .i64 bkn, .int .i64 bnn, .int .i64 lkn, .int .i64 lnn, .int .i64 g0n, .int .i64 g1n, .int .i64 g2n, .int .i64 g3n, .int .i64 usn, .int .i64 onn, .bool on_] 80 (0, 0))) ⟨(((Grows.refl w5).ext h5 k5).alloc _).setRowK (Nat.le_add_right _ _) _, setRow_heap _ _ _ _ _ _ rowE⟩ ?_
                clear f0 f1 f2 f3 f4 f5
                rintro w6 ⟨hG6, R22⟩
                generalize w5.heap.size + h5.size = N22 at *
                have HFe := Lib.hid (HFc.out.grows hG6)
                have HFf := Lib.hid (HFd.out.grows hG6)
                have HG8 := Lib.hid (HG5.out.trans hG6)
                have R21i := Lib.hid (Grows.rowK R21h.out hG6)
                have R22h := Lib.hid R22
                obtain ⟨f0, f1, f2, f3, f4, f5⟩ := HFf.out
                clear hG6 R22 HFc HFd HG5 R21h
                go_upto_region 22 with (first | (refine wpList_load_row rfl 80 (.tmp 21) rfl N21 rfl 80 #[.bool iz, .int .i64 xz, .int .i64 yz, .bool wz, .int .i64 az, .int .i64 uz, .int .i64 fkz, .int .i64 fnz, .int .i64 bkz, .int .i64 bnz, .int .i64 lkz, .int .i64 lnz, .int .i64 g0z, .int .i64 g1z, .int .i64 g2z, .int .i64 g3z, .int .i64 usz, .int .i64 onz, .bool oz] (0, 0) _ R21i.out Try.underlying80 rfl info80 ?_) | (go_at_call 40; (with_reducible refine (H40.out _).mono ?_); rintro e w' ⟨rfl, h6, k6, rfl⟩) | (refine wpList_store_row rfl 80 (.tmp 24) (.tmp 132) rfl (w6.heap.size + h6.size) #[.bool jn, .int .i64 xn, .int .i64 yn, .bool wn, .int .i64 an, .int .i64 un, .int .i64 fkn, .int .i64 fnn, .int .i64 bkn, .int .i64 bnn, .int .i64 lkn, .int .i64 lnn, .int .i64 g0n, .int .i64 g1n, .int .i64 g2n, .int .i64 g3n, .int .i64 usn, .int .i64 onn, .bool on_] rfl rfl 80 #[.bool false, .int .i64 0, .int .i64 0, .bool false, .int .i64 0, .int .i64 0, .int .i64 0, .int .i64 0, .int .i64 0, .int .i64 0, .int .i64 0, .int .i64 0, .int .i64 0, .int .i64 0, .int .i64 0, .int .i64 0, .int .i64 0, .int .i64 0, .bool false] rowE info80 rfl (oneCells jn xn yn wn an un fkn fnn bkn bnn lkn lnn g0n g1n g2n g3n usn onn on_) ?_))
                refine abs_worldK (fun W => Grows w6 W ∧ W.heap[w6.heap.size + h6.size]? = some (.cells #[.bool jn, .int .i64 xn, .int .i64 yn, .bool wn, .int .i64 an, .int .i64 un, .int .i64 fkn, .int .i64 fnn, .int .i64 bkn, .int .i64 bnn, .int .i64 lkn, .int .i64 lnn, .int .i64 g0n, .int .i64 g1n, .int .i64 g2n, .int .i64 g3n, .int .i64 usn, .int .i64 onn, .bool on_] 80 (0, 0))) ⟨(((Grows.refl w6).ext h6 k6).alloc _).setRowK (Nat.le_add_right _ _) _, setRow_heap _ _ _ _ _ _ rowE⟩ ?_
                clear f0 f1 f2 f3 f4 f5
                rintro w7 ⟨hG7, R24⟩
                generalize w6.heap.size + h6.size = N24 at *
                have hFg := HFe.out.grows hG7
                have hFh := HFf.out.grows hG7
                have hG9 := HG8.out.trans hG7
                have R21j := Lib.hid (Grows.rowK R21i.out hG7)
                have R22i := Lib.hid (Grows.rowK R22h.out hG7)
                have R24h := Lib.hid R24
                obtain ⟨f0, f1, f2, f3, f4, f5⟩ := hFg
                obtain ⟨d0, d1, d2, d3, d4, d5⟩ := hFh
                clear hG7 R24 HFe HFf HG8 R21i H39 H40
                have hqq := sav_eq
                have hss := savQ_self
                go_upto_region 27 with fail
                go_wp2_with (first | (refine wpList_load_row rfl 80 (.tmp 22) rfl N22 rfl 80 #[.bool jn, .int .i64 xn, .int .i64 yn, .bool wn, .int .i64 an, .int .i64 un, .int .i64 fkn, .int .i64 fnn, .int .i64 bkn, .int .i64 bnn, .int .i64 lkn, .int .i64 lnn, .int .i64 g0n, .int .i64 g1n, .int .i64 g2n, .int .i64 g3n, .int .i64 usn, .int .i64 onn, .bool on_] (0, 0) _ R22i.out Try.underlying80 rfl info80 ?_) | (refine wpList_load_row rfl 80 (.tmp 24) rfl N24 rfl 80 #[.bool jn, .int .i64 xn, .int .i64 yn, .bool wn, .int .i64 an, .int .i64 un, .int .i64 fkn, .int .i64 fnn, .int .i64 bkn, .int .i64 bnn, .int .i64 lkn, .int .i64 lnn, .int .i64 g0n, .int .i64 g1n, .int .i64 g2n, .int .i64 g3n, .int .i64 usn, .int .i64 onn, .bool on_] (0, 0) _ R24h.out Try.underlying80 rfl info80 ?_) | (refine wpList_load_rowW (by kernel_rfl) 80 (.tmp 21) rfl N21 rfl 80 #[.bool iz, .int .i64 xz, .int .i64 yz, .bool wz, .int .i64 az, .int .i64 uz, .int .i64 fkz, .int .i64 fnz, .int .i64 bkz, .int .i64 bnz, .int .i64 lkz, .int .i64 lnz, .int .i64 g0z, .int .i64 g1z, .int .i64 g2z, .int .i64 g3z, .int .i64 usz, .int .i64 onz, .bool oz] (0, 0) _ R21j.out Try.underlying80 rfl info80 ?_) | (go_at_call 42; (with_reducible refine (H42.out _).mono ?_); rintro e w' ⟨rfl, h8, k8, rfl⟩))
                go_roundw
                case rel => exact ⟨_, m + 1, rfl, by omega, by go_num, (by repeat' (first | (with_reducible exact hG9) | (with_reducible exact Grows.refl _) | (with_reducible refine Grows.alloc ?_ _) | (with_reducible refine Grows.drew ?_) | (with_reducible refine Grows.ext ?_ _ _)))⟩
                case measure => simp [intOf]; omega
              · have e3 : decide ((m : Int) < 4) = false := by simp; omega
                have hG7 := (HGb.out.trans HGc.out).trans (HG6.out.trans hGe)
                go_wp2_with fail
                go_roundw
                case rel => exact ⟨_, k + 1, rfl, by omega, by go_num, (by repeat' (first | (with_reducible exact hG7) | (with_reducible exact Grows.refl _) | (with_reducible refine Grows.alloc ?_ _) | (with_reducible refine Grows.drew ?_) | (with_reducible refine Grows.ext ?_ _ _)))⟩
                case measure => simp [intOf]; omega
    · have e1 : decide ((k : Int) < 2) = false := by simp; omega
      have hG5 := (HG3.out.trans HG4.out).trans hGa
      go_wp2_with (go_at_call 22; (with_reducible refine (works_true _).mono ?_); rintro e w' ⟨rfl, h1, d1, rfl⟩)
      go_returns
      exact ⟨rfl, (by repeat' (first | (with_reducible exact hG5) | (with_reducible exact Grows.refl _) | (with_reducible refine Grows.alloc ?_ _) | (with_reducible refine Grows.drew ?_) | (with_reducible refine Grows.ext ?_ _ _)))⟩
end Go.Proofs.Ytepbknpdhiaepaa
