/-
  Walks: FitSaved of both.
-/
import Derived.Test.YtepbknpdhiaepaaRows
import Derived.Test.YtepbknpdhiaepaaLt
import Derived.Test.YtepbknpdhiaepaaDefs
import Derived.Test.YtepbknpdhiaepaaW1
import Derived.Test.YtepbknpdhiaepaaW2
import Derived.Test.YtepbknpdhiaepaaW3
import Derived.Test.YtepbknpdhiaepaaW4
import Derived.Test.YtepbknpdhiaepaaK1
import Derived.Test.YtepbknpdhiaepaaK2
import Derived.Test.YtepbknpdhiaepaaK3
import Derived.Test.YtepbknpdhiaepaaK4
import Derived.Test.YtepbknpdhiaepaaArr
import Derived.Test.YtepbknpdhiaepaaEqs
import Derived.Test.YtepbknpdhiaepaaK5
import Derived.WalkKit
import Derived.WalkSpells
import Derived.WalkLawsBesides
import Derived.Handy
import Derived.Deep.Heap
import Derived.Laws.Rows
import Derived.IntWalk
import Derived.Lib.Hide
import Derived.Outline
import Derived.Deep.Light
import Derived.Deep.LoopGhost
import Derived.BigGuardPart
import Derived.BigQuiet
import Derived.Deep.QuietTactic
import Derived.Deep.RegionHeld3
import Derived.Deep.DeepCutAuto
import Derived.Test.YtepbknpdhiaepaaReg
namespace Go.Proofs.Ytepbknpdhiaepaa
open Go.RowKit


theorem abs_worldK {P : Program} {c : Code} {Q : Exit → Act → World → Prop} {a : Act} {w : World} (F : World → Prop) (hF : F w) (h : ∀ W, F W → c.wp P Q a W) : c.wp P Q a w := h w hF
theorem Grows.setRowK {w w' : World} (g : Grows w w') {n : Nat} (hn : w.heap.size ≤ n) (cs : Array Value) : Grows w (w'.setRow n cs) := by
  have b := g.below
  exact Grows.of_below ⟨b.os, b.tape, b.output, by rw [setRow_size]; exact b.size, fun k hk => (setRow_other w' n k cs (by omega)).trans (b.block k hk)⟩
theorem rowS {w A : World} {F S Zc : Obj} (g : Grows (((w.alloc F).alloc S).alloc Zc) A) : A.heap[w.heap.size + 1 + 1]? = some Zc ∧ A.heap[w.heap.size + 1]? = some S := by
  have h1 : (((w.alloc F).alloc S).alloc Zc).heap[w.heap.size + 1 + 1]? = some Zc := by
    have h := heap_alloc_new ((w.alloc F).alloc S) Zc
    rwa [World.size_alloc, World.size_alloc] at h
  have h2 : (((w.alloc F).alloc S).alloc Zc).heap[w.heap.size + 1]? = some S := by
    rw [heap_alloc_old _ _ (by rw [World.size_alloc, World.size_alloc]; omega)]
    exact heap_alloc2_new w F S
  exact ⟨Grows.rowK h1 g, Grows.rowK h2 g⟩
theorem heap_setK {w : World} {N k i : Nat} {v : Value} (h : k ≠ N) : (w.setCell ⟨N, i, none⟩ v).heap[k]? = w.heap[k]? := Deep.blk_setCell_other w ⟨N, i, none⟩ v k h
theorem FldAt.setK {w : World} {B N : Nat} {r c t b : Int} {o : Bool} (h : FldAt w B r c t b o) (hn : ¬ N = B) (i : Nat) (v : Value) : FldAt (w.setCell ⟨N, i, none⟩ v) B r c t b o := by
  obtain ⟨k0, k1, k2, k3, k4, k5⟩ := h
  have hn' : ¬ B = N := fun e => hn e.symm
  refine ⟨by simp [go_sem, k0], ?_, ?_, ?_, ?_, ?_⟩ <;> simp [go_sem, *]
theorem oneZ : (#[.bool false, .int .i64 0, .int .i64 0, .bool false, .int .i64 0, .int .i64 0, .int .i64 0, .int .i64 0, .int .i64 0, .int .i64 0, .int .i64 0, .int .i64 0, .int .i64 0, .int .i64 0, .int .i64 0, .int .i64 0, .int .i64 0, .int .i64 0, .bool false] : Array Value).all (·.oneCell') = true := by simp [Value.oneCell']
theorem oneCells (is : Bool) (x y : Int) (wr : Bool) (a u fk fn bk bn lk ln g0 g1 g2 g3 us on : Int) (og : Bool) : (#[.bool is, .int .i64 x, .int .i64 y, .bool wr, .int .i64 a, .int .i64 u, .int .i64 fk, .int .i64 fn, .int .i64 bk, .int .i64 bn, .int .i64 lk, .int .i64 ln, .int .i64 g0, .int .i64 g1, .int .i64 g2, .int .i64 g3, .int .i64 us, .int .i64 on, .bool og] : Array Value).all (·.oneCell') = true := by simp [Value.oneCell']
set_option maxRecDepth 100000 in
set_option maxHeartbeats 4000000 in
theorem fsaved_no (r c t b : Int) (o is : Bool) (x y : Int) (wr : Bool) (a u fk fn bk bn lk ln g0 g1 g2 g3 us on : Int) (og : Bool) (X Y : Int) (V : Bool) (h : ∀ W, Calls Try.prog 37 #[.agg #[.int .i64 r, .int .i64 c, .int .i64 t, .int .i64 b, .bool o], .agg #[.int .i64 x, .int .i64 y, .bool wr]] W (Ret (.tuple #[.agg #[.int .i64 X, .int .i64 Y, .bool V], .int .i64 270]) W)) (w : World) : Calls Try.prog 39 #[.agg #[.int .i64 r, .int .i64 c, .int .i64 t, .int .i64 b, .bool o], .agg #[.bool is, .int .i64 x, .int .i64 y, .bool wr, .int .i64 a, .int .i64 u, .int .i64 fk, .int .i64 fn, .int .i64 bk, .int .i64 bn, .int .i64 lk, .int .i64 ln, .int .i64 g0, .int .i64 g1, .int .i64 g2, .int .i64 g3, .int .i64 us, .int .i64 on, .bool og]] w (Ret (.tuple #[.agg #[.bool false, .int .i64 0, .int .i64 0, .bool false, .int .i64 0, .int .i64 0, .int .i64 0, .int .i64 0, .int .i64 0, .int .i64 0, .int .i64 0, .int .i64 0, .int .i64 0, .int .i64 0, .int .i64 0, .int .i64 0, .int .i64 0, .int .i64 0, .bool false], .int .i64 270]) w) := by
  have H := Lib.hid h
  clear h
  go_enter Try.func39, Try.ntmps39
  go_upto_region 3 with (go_at_call 37; (with_reducible refine (H.out _).mono ?_); rintro e w' ⟨rfl, h1, d1, rfl⟩)
  refine abs_worldK (fun W => W.heap[w.heap.size + 1 + 1]? = some (.cells #[.bool false, .int .i64 0, .int .i64 0, .bool false, .int .i64 0, .int .i64 0, .int .i64 0, .int .i64 0, .int .i64 0, .int .i64 0, .int .i64 0, .int .i64 0, .int .i64 0, .int .i64 0, .int .i64 0, .int .i64 0, .int .i64 0, .int .i64 0, .bool false] 80 (0, 0)) ∧ W.heap[w.heap.size + 1]? = some (.cells #[.bool is, .int .i64 x, .int .i64 y, .bool wr, .int .i64 a, .int .i64 u, .int .i64 fk, .int .i64 fn, .int .i64 bk, .int .i64 bn, .int .i64 lk, .int .i64 ln, .int .i64 g0, .int .i64 g1, .int .i64 g2, .int .i64 g3, .int .i64 us, .int .i64 on, .bool og] 80 (0, 0)) ∧ Grows w W) ⟨(rowS (by repeat' (first | (with_reducible exact Grows.refl _) | (with_reducible refine Grows.alloc ?_ _) | (with_reducible refine Grows.drew ?_) | (with_reducible refine Grows.ext ?_ _ _)))).1, (rowS (by repeat' (first | (with_reducible exact Grows.refl _) | (with_reducible refine Grows.alloc ?_ _) | (with_reducible refine Grows.drew ?_) | (with_reducible refine Grows.ext ?_ _ _)))).2, (by repeat' (first | (with_reducible exact Grows.refl _) | (with_reducible refine Grows.alloc ?_ _) | (with_reducible refine Grows.drew ?_) | (with_reducible refine Grows.ext ?_ _ _)))⟩ ?_
  rintro wc ⟨R4, R3, hG⟩
  have R4h := Lib.hid R4
  have hn4 : w.heap.size ≤ w.heap.size + 1 + 1 := by omega
  clear R4 R3
  generalize w.heap.size + 1 + 1 = N4 at *
  go_wp2_with (refine wpList_store_row rfl 80 (.tmp 4) (.tmp 23) rfl N4 #[.bool false, .int .i64 0, .int .i64 0, .bool false, .int .i64 0, .int .i64 0, .int .i64 0, .int .i64 0, .int .i64 0, .int .i64 0, .int .i64 0, .int .i64 0, .int .i64 0, .int .i64 0, .int .i64 0, .int .i64 0, .int .i64 0, .int .i64 0, .bool false] rfl rfl 80 #[.bool false, .int .i64 0, .int .i64 0, .bool false, .int .i64 0, .int .i64 0, .int .i64 0, .int .i64 0, .int .i64 0, .int .i64 0, .int .i64 0, .int .i64 0, .int .i64 0, .int .i64 0, .int .i64 0, .int .i64 0, .int .i64 0, .int .i64 0, .bool false] R4h.out info80 rfl oneZ ?_)
  have hrow := setRow_heap wc N4 #[.bool false, .int .i64 0, .int .i64 0, .bool false, .int .i64 0, .int .i64 0, .int .i64 0, .int .i64 0, .int .i64 0, .int .i64 0, .int .i64 0, .int .i64 0, .int .i64 0, .int .i64 0, .int .i64 0, .int .i64 0, .int .i64 0, .int .i64 0, .bool false] #[.bool false, .int .i64 0, .int .i64 0, .bool false, .int .i64 0, .int .i64 0, .int .i64 0, .int .i64 0, .int .i64 0, .int .i64 0, .int .i64 0, .int .i64 0, .int .i64 0, .int .i64 0, .int .i64 0, .int .i64 0, .int .i64 0, .int .i64 0, .bool false] 80 (0, 0) R4h.out
  have hl := run_loadVar_row (P := Try.prog) (wc.setRow N4 #[.bool false, .int .i64 0, .int .i64 0, .bool false, .int .i64 0, .int .i64 0, .int .i64 0, .int .i64 0, .int .i64 0, .int .i64 0, .int .i64 0, .int .i64 0, .int .i64 0, .int .i64 0, .int .i64 0, .int .i64 0, .int .i64 0, .int .i64 0, .bool false]) N4 80 80 #[.bool false, .int .i64 0, .int .i64 0, .bool false, .int .i64 0, .int .i64 0, .int .i64 0, .int .i64 0, .int .i64 0, .int .i64 0, .int .i64 0, .int .i64 0, .int .i64 0, .int .i64 0, .int .i64 0, .int .i64 0, .int .i64 0, .int .i64 0, .bool false] (0, 0) _ hrow Try.underlying80 rfl info80
  refine bodyPost_ret (v := .tuple #[.agg #[.bool false, .int .i64 0, .int .i64 0, .bool false, .int .i64 0, .int .i64 0, .int .i64 0, .int .i64 0, .int .i64 0, .int .i64 0, .int .i64 0, .int .i64 0, .int .i64 0, .int .i64 0, .int .i64 0, .int .i64 0, .int .i64 0, .int .i64 0, .bool false], .int .i64 270]) ?_ rfl ?_
  · simp [results, Try.results39, asAddr, hl]
  · exact ⟨rfl, hG.setRowK hn4 _⟩
set_option maxRecDepth 100000 in
set_option maxHeartbeats 4000000 in
theorem fsaved_not (r c t b : Int) (o : Bool) (x y : Int) (wr : Bool) (a u fk fn bk bn lk ln g0 g1 g2 g3 us on : Int) (og : Bool) (X Y : Int) (V : Bool) (h : ∀ W, Calls Try.prog 37 #[.agg #[.int .i64 r, .int .i64 c, .int .i64 t, .int .i64 b, .bool o], .agg #[.int .i64 x, .int .i64 y, .bool wr]] W (Ret (.tuple #[.agg #[.int .i64 X, .int .i64 Y, .bool V], .int .i64 0]) W)) (w : World) : Calls Try.prog 39 #[.agg #[.int .i64 r, .int .i64 c, .int .i64 t, .int .i64 b, .bool o], .agg #[.bool false, .int .i64 x, .int .i64 y, .bool wr, .int .i64 a, .int .i64 u, .int .i64 fk, .int .i64 fn, .int .i64 bk, .int .i64 bn, .int .i64 lk, .int .i64 ln, .int .i64 g0, .int .i64 g1, .int .i64 g2, .int .i64 g3, .int .i64 us, .int .i64 on, .bool og]] w (Ret (.tuple #[.agg #[.bool false, .int .i64 0, .int .i64 0, .bool false, .int .i64 0, .int .i64 0, .int .i64 0, .int .i64 0, .int .i64 0, .int .i64 0, .int .i64 0, .int .i64 0, .int .i64 0, .int .i64 0, .int .i64 0, .int .i64 0, .int .i64 0, .int .i64 0, .bool false], .int .i64 0]) w) := by
  have H := Lib.hid h
  clear h
  go_enter Try.func39, Try.ntmps39
  go_upto_region 3 with (go_at_call 37; (with_reducible refine (H.out _).mono ?_); rintro e w' ⟨rfl, h1, d1, rfl⟩)
  refine abs_worldK (fun W => W.heap[w.heap.size + 1 + 1]? = some (.cells #[.bool false, .int .i64 0, .int .i64 0, .bool false, .int .i64 0, .int .i64 0, .int .i64 0, .int .i64 0, .int .i64 0, .int .i64 0, .int .i64 0, .int .i64 0, .int .i64 0, .int .i64 0, .int .i64 0, .int .i64 0, .int .i64 0, .int .i64 0, .bool false] 80 (0, 0)) ∧ W.heap[w.heap.size + 1]? = some (.cells #[.bool false, .int .i64 x, .int .i64 y, .bool wr, .int .i64 a, .int .i64 u, .int .i64 fk, .int .i64 fn, .int .i64 bk, .int .i64 bn, .int .i64 lk, .int .i64 ln, .int .i64 g0, .int .i64 g1, .int .i64 g2, .int .i64 g3, .int .i64 us, .int .i64 on, .bool og] 80 (0, 0)) ∧ Grows w W) ⟨(rowS (by repeat' (first | (with_reducible exact Grows.refl _) | (with_reducible refine Grows.alloc ?_ _) | (with_reducible refine Grows.drew ?_) | (with_reducible refine Grows.ext ?_ _ _)))).1, (rowS (by repeat' (first | (with_reducible exact Grows.refl _) | (with_reducible refine Grows.alloc ?_ _) | (with_reducible refine Grows.drew ?_) | (with_reducible refine Grows.ext ?_ _ _)))).2, (by repeat' (first | (with_reducible exact Grows.refl _) | (with_reducible refine Grows.alloc ?_ _) | (with_reducible refine Grows.drew ?_) | (with_reducible refine Grows.ext ?_ _ _)))⟩ ?_
  rintro wc ⟨R4, R3, hG⟩
  have R4h := Lib.hid R4
  have hn4 : w.heap.size ≤ w.heap.size + 1 + 1 := by omega
  clear R4 R3
  generalize w.heap.size + 1 + 1 = N4 at *
  go_wp2_with (refine wpList_store_row rfl 80 (.tmp 4) (.tmp 23) rfl N4 #[.bool false, .int .i64 0, .int .i64 0, .bool false, .int .i64 0, .int .i64 0, .int .i64 0, .int .i64 0, .int .i64 0, .int .i64 0, .int .i64 0, .int .i64 0, .int .i64 0, .int .i64 0, .int .i64 0, .int .i64 0, .int .i64 0, .int .i64 0, .bool false] rfl rfl 80 #[.bool false, .int .i64 0, .int .i64 0, .bool false, .int .i64 0, .int .i64 0, .int .i64 0, .int .i64 0, .int .i64 0, .int .i64 0, .int .i64 0, .int .i64 0, .int .i64 0, .int .i64 0, .int .i64 0, .int .i64 0, .int .i64 0, .int .i64 0, .bool false] R4h.out info80 rfl oneZ ?_)
  have hrow := setRow_heap wc N4 #[.bool false, .int .i64 0, .int .i64 0, .bool false, .int .i64 0, .int .i64 0, .int .i64 0, .int .i64 0, .int .i64 0, .int .i64 0, .int .i64 0, .int .i64 0, .int .i64 0, .int .i64 0, .int .i64 0, .int .i64 0, .int .i64 0, .int .i64 0, .bool false] #[.bool false, .int .i64 0, .int .i64 0, .bool false, .int .i64 0, .int .i64 0, .int .i64 0, .int .i64 0, .int .i64 0, .int .i64 0, .int .i64 0, .int .i64 0, .int .i64 0, .int .i64 0, .int .i64 0, .int .i64 0, .int .i64 0, .int .i64 0, .bool false] 80 (0, 0) R4h.out
  have hl := run_loadVar_row (P := Try.prog) (wc.setRow N4 #[.bool false, .int .i64 0, .int .i64 0, .bool false, .int .i64 0, .int .i64 0, .int .i64 0, .int .i64 0, .int .i64 0, .int .i64 0, .int .i64 0, .int .i64 0, .int .i64 0, .int .i64 0, .int .i64 0, .int .i64 0, .int .i64 0, .int .i64 0, .bool false]) N4 80 80 #[.bool false, .int .i64 0, .int .i64 0, .bool false, .int .i64 0, .int .i64 0, .int .i64 0, .int .i64 0, .int .i64 0, .int .i64 0, .int .i64 0, .int .i64 0, .int .i64 0, .int .i64 0, .int .i64 0, .int .i64 0, .int .i64 0, .int .i64 0, .bool false] (0, 0) _ hrow Try.underlying80 rfl info80
  refine bodyPost_ret (v := .tuple #[.agg #[.bool false, .int .i64 0, .int .i64 0, .bool false, .int .i64 0, .int .i64 0, .int .i64 0, .int .i64 0, .int .i64 0, .int .i64 0, .int .i64 0, .int .i64 0, .int .i64 0, .int .i64 0, .int .i64 0, .int .i64 0, .int .i64 0, .int .i64 0, .bool false], .int .i64 0]) ?_ rfl ?_
  · simp [results, Try.results39, asAddr, hl]
  · exact ⟨rfl, hG.setRowK hn4 _⟩
set_option maxRecDepth 100000 in
set_option maxHeartbeats 4000000 in
theorem fsaved_bad (r c t b : Int) (o : Bool) (x y : Int) (wr : Bool) (a u fk fn bk bn lk ln g0 g1 g2 g3 us on : Int) (og : Bool) (X Y : Int) (V : Bool) (h : ∀ W, Calls Try.prog 37 #[.agg #[.int .i64 r, .int .i64 c, .int .i64 t, .int .i64 b, .bool o], .agg #[.int .i64 x, .int .i64 y, .bool wr]] W (Ret (.tuple #[.agg #[.int .i64 X, .int .i64 Y, .bool V], .int .i64 0]) W)) (h2 : ∀ W, Calls Try.prog 42 #[.agg #[.int .i64 r, .int .i64 c, .int .i64 t, .int .i64 b, .bool o], .agg #[.bool true, .int .i64 X, .int .i64 Y, .bool V, .int .i64 a, .int .i64 u, .int .i64 fk, .int .i64 fn, .int .i64 bk, .int .i64 bn, .int .i64 lk, .int .i64 ln, .int .i64 g0, .int .i64 g1, .int .i64 g2, .int .i64 g3, .int .i64 us, .int .i64 on, .bool og]] W (Ret (.int .i64 272) W)) (w : World) : Calls Try.prog 39 #[.agg #[.int .i64 r, .int .i64 c, .int .i64 t, .int .i64 b, .bool o], .agg #[.bool true, .int .i64 x, .int .i64 y, .bool wr, .int .i64 a, .int .i64 u, .int .i64 fk, .int .i64 fn, .int .i64 bk, .int .i64 bn, .int .i64 lk, .int .i64 ln, .int .i64 g0, .int .i64 g1, .int .i64 g2, .int .i64 g3, .int .i64 us, .int .i64 on, .bool og]] w (Ret (.tuple #[.agg #[.bool false, .int .i64 0, .int .i64 0, .bool false, .int .i64 0, .int .i64 0, .int .i64 0, .int .i64 0, .int .i64 0, .int .i64 0, .int .i64 0, .int .i64 0, .int .i64 0, .int .i64 0, .int .i64 0, .int .i64 0, .int .i64 0, .int .i64 0, .bool false], .int .i64 272]) w) := by
  have H := Lib.hid h
  clear h
  have H2 := Lib.hid h2
  clear h2
  go_enter Try.func39, Try.ntmps39
  go_upto_region 4 with (go_at_call 37; (with_reducible refine (H.out _).mono ?_); rintro e w' ⟨rfl, h1, d1, rfl⟩)
  refine abs_worldK (fun W => W.heap[w.heap.size + 1 + 1]? = some (.cells #[.bool false, .int .i64 0, .int .i64 0, .bool false, .int .i64 0, .int .i64 0, .int .i64 0, .int .i64 0, .int .i64 0, .int .i64 0, .int .i64 0, .int .i64 0, .int .i64 0, .int .i64 0, .int .i64 0, .int .i64 0, .int .i64 0, .int .i64 0, .bool false] 80 (0, 0)) ∧ W.heap[w.heap.size + 1]? = some (.cells #[.bool true, .int .i64 x, .int .i64 y, .bool wr, .int .i64 a, .int .i64 u, .int .i64 fk, .int .i64 fn, .int .i64 bk, .int .i64 bn, .int .i64 lk, .int .i64 ln, .int .i64 g0, .int .i64 g1, .int .i64 g2, .int .i64 g3, .int .i64 us, .int .i64 on, .bool og] 80 (0, 0)) ∧ Grows w W ∧ FldAt W w.heap.size r c t b o ∧ CurAt W (w.heap.size + 1 + 1 + 1 + h1.size) X Y V) ⟨(rowS (by repeat' (first | (with_reducible exact Grows.refl _) | (with_reducible refine Grows.alloc ?_ _) | (with_reducible refine Grows.drew ?_) | (with_reducible refine Grows.ext ?_ _ _)))).1, (rowS (by repeat' (first | (with_reducible exact Grows.refl _) | (with_reducible refine Grows.alloc ?_ _) | (with_reducible refine Grows.drew ?_) | (with_reducible refine Grows.ext ?_ _ _)))).2, (by repeat' (first | (with_reducible exact Grows.refl _) | (with_reducible refine Grows.alloc ?_ _) | (with_reducible refine Grows.drew ?_) | (with_reducible refine Grows.ext ?_ _ _))), ⟨by simp [go_sem], by simp [go_sem], by simp [go_sem], by simp [go_sem], by simp [go_sem], by simp [go_sem]⟩, ⟨by simp [go_sem], by simp [go_sem], by simp [go_sem], by simp [go_sem], by simp [go_sem], by simp [go_sem], by simp [go_sem]⟩⟩ ?_
  rintro wc ⟨R4, R3, hG, hF, hC⟩
  obtain ⟨p0, p1, p2, p3, p4, p5⟩ := hF
  obtain ⟨u0, u1, u2, u3, u4, u5, u6⟩ := hC
  have hF0 : FldAt wc w.heap.size r c t b o := ⟨p0, p1, p2, p3, p4, p5⟩
  have s1 : wc.cell? ⟨w.heap.size + 1, 1, none⟩ = some (.int .i64 x) := (cell_of_row wc _ 1 _ 80 (0, 0) R3).trans rfl
  have s2 : wc.cell? ⟨w.heap.size + 1, 2, none⟩ = some (.int .i64 y) := (cell_of_row wc _ 2 _ 80 (0, 0) R3).trans rfl
  have s3 : wc.cell? ⟨w.heap.size + 1, 3, none⟩ = some (.bool wr) := (cell_of_row wc _ 3 _ 80 (0, 0) R3).trans rfl
  have t1 := frozen_of_row wc (w.heap.size + 1) 1 _ 80 R3
  have t2 := frozen_of_row wc (w.heap.size + 1) 2 _ 80 R3
  have t3 := frozen_of_row wc (w.heap.size + 1) 3 _ 80 R3
  have hsz : w.heap.size + 1 < wc.heap.size := (Array.getElem?_eq_some_iff.1 R3).1
  have r1 := heap_setCell_same wc (w.heap.size + 1) 1 _ 80 (.int .i64 X) R3
  have r2 := heap_setCell_same _ (w.heap.size + 1) 2 _ 80 (.int .i64 Y) r1
  have r3 := heap_setCell_same _ (w.heap.size + 1) 3 _ 80 (.bool V) r2
  have r4 : ((((wc.setCell ⟨w.heap.size + 1, 1, none⟩ (.int .i64 X)).setCell ⟨w.heap.size + 1, 2, none⟩ (.int .i64 Y)).setCell ⟨w.heap.size + 1, 3, none⟩ (.bool V))).heap[w.heap.size + 1 + 1]? = some (.cells #[.bool false, .int .i64 0, .int .i64 0, .bool false, .int .i64 0, .int .i64 0, .int .i64 0, .int .i64 0, .int .i64 0, .int .i64 0, .int .i64 0, .int .i64 0, .int .i64 0, .int .i64 0, .int .i64 0, .int .i64 0, .int .i64 0, .int .i64 0, .bool false] 80 (0, 0)) := by
    rw [heap_setK (by omega), heap_setK (by omega), heap_setK (by omega)]
    exact R4
  have hF' := ((hF0.setK (show ¬ w.heap.size + 1 = w.heap.size by omega) 1 (.int .i64 X)).setK (show ¬ w.heap.size + 1 = w.heap.size by omega) 2 (.int .i64 Y)).setK (show ¬ w.heap.size + 1 = w.heap.size by omega) 3 (.bool V)
  have hn3 : w.heap.size ≤ w.heap.size + 1 := by omega
  have hn4 : w.heap.size ≤ w.heap.size + 1 + 1 := by omega
  have hG' := ((hG.setCell hn3 (.int .i64 X) (i := 1)).setCell hn3 (.int .i64 Y) (i := 2)).setCell hn3 (.bool V) (i := 3)
  have R3h := Lib.hid (show _ = some (Obj.cells #[.bool true, .int .i64 X, .int .i64 Y, .bool V, .int .i64 a, .int .i64 u, .int .i64 fk, .int .i64 fn, .int .i64 bk, .int .i64 bn, .int .i64 lk, .int .i64 ln, .int .i64 g0, .int .i64 g1, .int .i64 g2, .int .i64 g3, .int .i64 us, .int .i64 on, .bool og] 80 (0, 0)) from r3)
  have R4h := Lib.hid r4
  have HF := Lib.hid hF'
  have HG := Lib.hid hG'
  clear R3 R4 r1 r2 r3 r4 hF' hG' hG hF0
  generalize w.heap.size + 1 + 1 = N4 at *
  generalize w.heap.size + 1 = N3 at *
  go_upto_region 5 with fail
  refine abs_worldK (fun W => W.heap[N4]? = some (.cells #[.bool false, .int .i64 0, .int .i64 0, .bool false, .int .i64 0, .int .i64 0, .int .i64 0, .int .i64 0, .int .i64 0, .int .i64 0, .int .i64 0, .int .i64 0, .int .i64 0, .int .i64 0, .int .i64 0, .int .i64 0, .int .i64 0, .int .i64 0, .bool false] 80 (0, 0)) ∧ W.heap[N3]? = some (.cells #[.bool true, .int .i64 X, .int .i64 Y, .bool V, .int .i64 a, .int .i64 u, .int .i64 fk, .int .i64 fn, .int .i64 bk, .int .i64 bn, .int .i64 lk, .int .i64 ln, .int .i64 g0, .int .i64 g1, .int .i64 g2, .int .i64 g3, .int .i64 us, .int .i64 on, .bool og] 80 (0, 0)) ∧ Grows w W ∧ FldAt W w.heap.size r c t b o) ⟨R4h.out, R3h.out, HG.out, HF.out⟩ ?_
  clear p0 p1 p2 p3 p4 p5 s1 s2 s3 t1 t2 t3 R3h R4h HF HG hsz u0 u1 u2 u3 u4 u5 u6
  rintro wd ⟨R4, R3, hG, hF⟩
  obtain ⟨p0, p1, p2, p3, p4, p5⟩ := hF
  have R4h := Lib.hid R4
  have R3h := Lib.hid R3
  clear R4 R3
  go_upto_region 7 with (first | (refine wpList_load_row rfl 80 (.tmp 3) rfl N3 rfl 80 #[.bool true, .int .i64 X, .int .i64 Y, .bool V, .int .i64 a, .int .i64 u, .int .i64 fk, .int .i64 fn, .int .i64 bk, .int .i64 bn, .int .i64 lk, .int .i64 ln, .int .i64 g0, .int .i64 g1, .int .i64 g2, .int .i64 g3, .int .i64 us, .int .i64 on, .bool og] (0, 0) _ R3h.out Try.underlying80 rfl info80 ?_) | (go_at_call 42; (with_reducible refine (H2.out _).mono ?_); rintro e w' ⟨rfl, h3, d3, rfl⟩))
  go_wp2_with (refine wpList_store_row rfl 80 (.tmp 4) (.tmp 32) rfl N4 #[.bool false, .int .i64 0, .int .i64 0, .bool false, .int .i64 0, .int .i64 0, .int .i64 0, .int .i64 0, .int .i64 0, .int .i64 0, .int .i64 0, .int .i64 0, .int .i64 0, .int .i64 0, .int .i64 0, .int .i64 0, .int .i64 0, .int .i64 0, .bool false] rfl rfl 80 #[.bool false, .int .i64 0, .int .i64 0, .bool false, .int .i64 0, .int .i64 0, .int .i64 0, .int .i64 0, .int .i64 0, .int .i64 0, .int .i64 0, .int .i64 0, .int .i64 0, .int .i64 0, .int .i64 0, .int .i64 0, .int .i64 0, .int .i64 0, .bool false] (Grows.rowK R4h.out ((Grows.refl _).ext _ _)) info80 rfl oneZ ?_)
  have hrow := setRow_heap (ext wd h3 d3) N4 #[.bool false, .int .i64 0, .int .i64 0, .bool false, .int .i64 0, .int .i64 0, .int .i64 0, .int .i64 0, .int .i64 0, .int .i64 0, .int .i64 0, .int .i64 0, .int .i64 0, .int .i64 0, .int .i64 0, .int .i64 0, .int .i64 0, .int .i64 0, .bool false] #[.bool false, .int .i64 0, .int .i64 0, .bool false, .int .i64 0, .int .i64 0, .int .i64 0, .int .i64 0, .int .i64 0, .int .i64 0, .int .i64 0, .int .i64 0, .int .i64 0, .int .i64 0, .int .i64 0, .int .i64 0, .int .i64 0, .int .i64 0, .bool false] 80 (0, 0) (Grows.rowK R4h.out ((Grows.refl _).ext _ _))
  have hl := run_loadVar_row (P := Try.prog) ((ext wd h3 d3).setRow N4 #[.bool false, .int .i64 0, .int .i64 0, .bool false, .int .i64 0, .int .i64 0, .int .i64 0, .int .i64 0, .int .i64 0, .int .i64 0, .int .i64 0, .int .i64 0, .int .i64 0, .int .i64 0, .int .i64 0, .int .i64 0, .int .i64 0, .int .i64 0, .bool false]) N4 80 80 #[.bool false, .int .i64 0, .int .i64 0, .bool false, .int .i64 0, .int .i64 0, .int .i64 0, .int .i64 0, .int .i64 0, .int .i64 0, .int .i64 0, .int .i64 0, .int .i64 0, .int .i64 0, .int .i64 0, .int .i64 0, .int .i64 0, .int .i64 0, .bool false] (0, 0) _ hrow Try.underlying80 rfl info80
  refine bodyPost_ret (v := .tuple #[.agg #[.bool false, .int .i64 0, .int .i64 0, .bool false, .int .i64 0, .int .i64 0, .int .i64 0, .int .i64 0, .int .i64 0, .int .i64 0, .int .i64 0, .int .i64 0, .int .i64 0, .int .i64 0, .int .i64 0, .int .i64 0, .int .i64 0, .int .i64 0, .bool false], .int .i64 272]) ?_ rfl ?_
  · simp [results, Try.results39, asAddr, hl]
  · exact ⟨rfl, (hG.ext _ _).setRowK hn4 _⟩
set_option maxRecDepth 100000 in
set_option maxHeartbeats 4000000 in
theorem fsaved_ok (r c t b : Int) (o : Bool) (x y : Int) (wr : Bool) (a u fk fn bk bn lk ln g0 g1 g2 g3 us on : Int) (og : Bool) (X Y : Int) (V : Bool) (h : ∀ W, Calls Try.prog 37 #[.agg #[.int .i64 r, .int .i64 c, .int .i64 t, .int .i64 b, .bool o], .agg #[.int .i64 x, .int .i64 y, .bool wr]] W (Ret (.tuple #[.agg #[.int .i64 X, .int .i64 Y, .bool V], .int .i64 0]) W)) (h2 : ∀ W, Calls Try.prog 42 #[.agg #[.int .i64 r, .int .i64 c, .int .i64 t, .int .i64 b, .bool o], .agg #[.bool true, .int .i64 X, .int .i64 Y, .bool V, .int .i64 a, .int .i64 u, .int .i64 fk, .int .i64 fn, .int .i64 bk, .int .i64 bn, .int .i64 lk, .int .i64 ln, .int .i64 g0, .int .i64 g1, .int .i64 g2, .int .i64 g3, .int .i64 us, .int .i64 on, .bool og]] W (Ret (.int .i64 0) W)) (w : World) : Calls Try.prog 39 #[.agg #[.int .i64 r, .int .i64 c, .int .i64 t, .int .i64 b, .bool o], .agg #[.bool true, .int .i64 x, .int .i64 y, .bool wr, .int .i64 a, .int .i64 u, .int .i64 fk, .int .i64 fn, .int .i64 bk, .int .i64 bn, .int .i64 lk, .int .i64 ln, .int .i64 g0, .int .i64 g1, .int .i64 g2, .int .i64 g3, .int .i64 us, .int .i64 on, .bool og]] w (Ret (.tuple #[.agg #[.bool true, .int .i64 X, .int .i64 Y, .bool V, .int .i64 a, .int .i64 u, .int .i64 fk, .int .i64 fn, .int .i64 bk, .int .i64 bn, .int .i64 lk, .int .i64 ln, .int .i64 g0, .int .i64 g1, .int .i64 g2, .int .i64 g3, .int .i64 us, .int .i64 on, .bool og], .int .i64 0]) w) := by
  have H := Lib.hid h
  clear h
  have H2 := Lib.hid h2
  clear h2
  go_enter Try.func39, Try.ntmps39
  go_upto_region 4 with (go_at_call 37; (with_reducible refine (H.out _).mono ?_); rintro e w' ⟨rfl, h1, d1, rfl⟩)
  refine abs_worldK (fun W => W.heap[w.heap.size + 1 + 1]? = some (.cells #[.bool false, .int .i64 0, .int .i64 0, .bool false, .int .i64 0, .int .i64 0, .int .i64 0, .int .i64 0, .int .i64 0, .int .i64 0, .int .i64 0, .int .i64 0, .int .i64 0, .int .i64 0, .int .i64 0, .int .i64 0, .int .i64 0, .int .i64 0, .bool false] 80 (0, 0)) ∧ W.heap[w.heap.size + 1]? = some (.cells #[.bool true, .int .i64 x, .int .i64 y, .bool wr, .int .i64 a, .int .i64 u, .int .i64 fk, .int .i64 fn, .int .i64 bk, .int .i64 bn, .int .i64 lk, .int .i64 ln, .int .i64 g0, .int .i64 g1, .int .i64 g2, .int .i64 g3, .int .i64 us, .int .i64 on, .bool og] 80 (0, 0)) ∧ Grows w W ∧ FldAt W w.heap.size r c t b o ∧ CurAt W (w.heap.size + 1 + 1 + 1 + h1.size) X Y V) ⟨(rowS (by repeat' (first | (with_reducible exact Grows.refl _) | (with_reducible refine Grows.alloc ?_ _) | (with_reducible refine Grows.drew ?_) | (with_reducible refine Grows.ext ?_ _ _)))).1, (rowS (by repeat' (first | (with_reducible exact Grows.refl _) | (with_reducible refine Grows.alloc ?_ _) | (with_reducible refine Grows.drew ?_) | (with_reducible refine Grows.ext ?_ _ _)))).2, (by repeat' (first | (with_reducible exact Grows.refl _) | (with_reducible refine Grows.alloc ?_ _) | (with_reducible refine Grows.drew ?_) | (with_reducible refine Grows.ext ?_ _ _))), ⟨by simp [go_sem], by simp [go_sem], by simp [go_sem], by simp [go_sem], by simp [go_sem], by simp [go_sem]⟩, ⟨by simp [go_sem], by simp [go_sem], by simp [go_sem], by simp [go_sem], by simp [go_sem], by simp [go_sem], by simp [go_sem]⟩⟩ ?_
  rintro wc ⟨R4, R3, hG, hF, hC⟩
  obtain ⟨p0, p1, p2, p3, p4, p5⟩ := hF
  obtain ⟨u0, u1, u2, u3, u4, u5, u6⟩ := hC
  have hF0 : FldAt wc w.heap.size r c t b o := ⟨p0, p1, p2, p3, p4, p5⟩
  have s1 : wc.cell? ⟨w.heap.size + 1, 1, none⟩ = some (.int .i64 x) := (cell_of_row wc _ 1 _ 80 (0, 0) R3).trans rfl
  have s2 : wc.cell? ⟨w.heap.size + 1, 2, none⟩ = some (.int .i64 y) := (cell_of_row wc _ 2 _ 80 (0, 0) R3).trans rfl
  have s3 : wc.cell? ⟨w.heap.size + 1, 3, none⟩ = some (.bool wr) := (cell_of_row wc _ 3 _ 80 (0, 0) R3).trans rfl
  have t1 := frozen_of_row wc (w.heap.size + 1) 1 _ 80 R3
  have t2 := frozen_of_row wc (w.heap.size + 1) 2 _ 80 R3
  have t3 := frozen_of_row wc (w.heap.size + 1) 3 _ 80 R3
  have hsz : w.heap.size + 1 < wc.heap.size := (Array.getElem?_eq_some_iff.1 R3).1
  have r1 := heap_setCell_same wc (w.heap.size + 1) 1 _ 80 (.int .i64 X) R3
  have r2 := heap_setCell_same _ (w.heap.size + 1) 2 _ 80 (.int .i64 Y) r1
  have r3 := heap_setCell_same _ (w.heap.size + 1) 3 _ 80 (.bool V) r2
  have r4 : ((((wc.setCell ⟨w.heap.size + 1, 1, none⟩ (.int .i64 X)).setCell ⟨w.heap.size + 1, 2, none⟩ (.int .i64 Y)).setCell ⟨w.heap.size + 1, 3, none⟩ (.bool V))).heap[w.heap.size + 1 + 1]? = some (.cells #[.bool false, .int .i64 0, .int .i64 0, .bool false, .int .i64 0, .int .i64 0, .int .i64 0, .int .i64 0, .int .i64 0, .int .i64 0, .int .i64 0, .int .i64 0, .int .i64 0, .int .i64 0, .int .i64 0, .int .i64 0, .int .i64 0, .int .i64 0, .bool false] 80 (0, 0)) := by
    rw [heap_setK (by omega), heap_setK (by omega), heap_setK (by omega)]
    exact R4
  have hF' := ((hF0.setK (show ¬ w.heap.size + 1 = w.heap.size by omega) 1 (.int .i64 X)).setK (show ¬ w.heap.size + 1 = w.heap.size by omega) 2 (.int .i64 Y)).setK (show ¬ w.heap.size + 1 = w.heap.size by omega) 3 (.bool V)
  have hn3 : w.heap.size ≤ w.heap.size + 1 := by omega
  have hn4 : w.heap.size ≤ w.heap.size + 1 + 1 := by omega
  have hG' := ((hG.setCell hn3 (.int .i64 X) (i := 1)).setCell hn3 (.int .i64 Y) (i := 2)).setCell hn3 (.bool V) (i := 3)
  have R3h := Lib.hid (show _ = some (Obj.cells #[.bool true, .int .i64 X, .int .i64 Y, .bool V, .int .i64 a, .int .i64 u, .int .i64 fk, .int .i64 fn, .int .i64 bk, .int .i64 bn, .int .i64 lk, .int .i64 ln, .int .i64 g0, .int .i64 g1, .int .i64 g2, .int .i64 g3, .int .i64 us, .int .i64 on, .bool og] 80 (0, 0)) from r3)
  have R4h := Lib.hid r4
  have HF := Lib.hid hF'
  have HG := Lib.hid hG'
  clear R3 R4 r1 r2 r3 r4 hF' hG' hG hF0
  generalize w.heap.size + 1 + 1 = N4 at *
  generalize w.heap.size + 1 = N3 at *
  go_upto_region 5 with fail
  refine abs_worldK (fun W => W.heap[N4]? = some (.cells #[.bool false, .int .i64 0, .int .i64 0, .bool false, .int .i64 0, .int .i64 0, .int .i64 0, .int .i64 0, .int .i64 0, .int .i64 0, .int .i64 0, .int .i64 0, .int .i64 0, .int .i64 0, .int .i64 0, .int .i64 0, .int .i64 0, .int .i64 0, .bool false] 80 (0, 0)) ∧ W.heap[N3]? = some (.cells #[.bool true, .int .i64 X, .int .i64 Y, .bool V, .int .i64 a, .int .i64 u, .int .i64 fk, .int .i64 fn, .int .i64 bk, .int .i64 bn, .int .i64 lk, .int .i64 ln, .int .i64 g0, .int .i64 g1, .int .i64 g2, .int .i64 g3, .int .i64 us, .int .i64 on, .bool og] 80 (0, 0)) ∧ Grows w W ∧ FldAt W w.heap.size r c t b o) ⟨R4h.out, R3h.out, HG.out, HF.out⟩ ?_
  clear p0 p1 p2 p3 p4 p5 s1 s2 s3 t1 t2 t3 R3h R4h HF HG hsz u0 u1 u2 u3 u4 u5 u6
  rintro wd ⟨R4, R3, hG, hF⟩
  obtain ⟨p0, p1, p2, p3, p4, p5⟩ := hF
  have R4h := Lib.hid R4
  have R3h := Lib.hid R3
  clear R4 R3
  go_upto_region 8 with (first | (refine wpList_load_row rfl 80 (.tmp 3) rfl N3 rfl 80 #[.bool true, .int .i64 X, .int .i64 Y, .bool V, .int .i64 a, .int .i64 u, .int .i64 fk, .int .i64 fn, .int .i64 bk, .int .i64 bn, .int .i64 lk, .int .i64 ln, .int .i64 g0, .int .i64 g1, .int .i64 g2, .int .i64 g3, .int .i64 us, .int .i64 on, .bool og] (0, 0) _ R3h.out Try.underlying80 rfl info80 ?_) | (go_at_call 42; (with_reducible refine (H2.out _).mono ?_); rintro e w' ⟨rfl, h3, d3, rfl⟩))
  go_wp2_with (first | (refine wpList_load_row rfl 80 (.tmp 3) rfl N3 rfl 80 #[.bool true, .int .i64 X, .int .i64 Y, .bool V, .int .i64 a, .int .i64 u, .int .i64 fk, .int .i64 fn, .int .i64 bk, .int .i64 bn, .int .i64 lk, .int .i64 ln, .int .i64 g0, .int .i64 g1, .int .i64 g2, .int .i64 g3, .int .i64 us, .int .i64 on, .bool og] (0, 0) _ (Grows.rowK R3h.out ((Grows.refl _).ext _ _)) Try.underlying80 rfl info80 ?_) | (refine wpList_store_row rfl 80 (.tmp 4) (.tmp 34) rfl N4 #[.bool true, .int .i64 X, .int .i64 Y, .bool V, .int .i64 a, .int .i64 u, .int .i64 fk, .int .i64 fn, .int .i64 bk, .int .i64 bn, .int .i64 lk, .int .i64 ln, .int .i64 g0, .int .i64 g1, .int .i64 g2, .int .i64 g3, .int .i64 us, .int .i64 on, .bool og] rfl rfl 80 #[.bool false, .int .i64 0, .int .i64 0, .bool false, .int .i64 0, .int .i64 0, .int .i64 0, .int .i64 0, .int .i64 0, .int .i64 0, .int .i64 0, .int .i64 0, .int .i64 0, .int .i64 0, .int .i64 0, .int .i64 0, .int .i64 0, .int .i64 0, .bool false] (Grows.rowK R4h.out ((Grows.refl _).ext _ _)) info80 rfl (oneCells true X Y V a u fk fn bk bn lk ln g0 g1 g2 g3 us on og) ?_))
  have hrow := setRow_heap (ext wd h3 d3) N4 #[.bool false, .int .i64 0, .int .i64 0, .bool false, .int .i64 0, .int .i64 0, .int .i64 0, .int .i64 0, .int .i64 0, .int .i64 0, .int .i64 0, .int .i64 0, .int .i64 0, .int .i64 0, .int .i64 0, .int .i64 0, .int .i64 0, .int .i64 0, .bool false] #[.bool true, .int .i64 X, .int .i64 Y, .bool V, .int .i64 a, .int .i64 u, .int .i64 fk, .int .i64 fn, .int .i64 bk, .int .i64 bn, .int .i64 lk, .int .i64 ln, .int .i64 g0, .int .i64 g1, .int .i64 g2, .int .i64 g3, .int .i64 us, .int .i64 on, .bool og] 80 (0, 0) (Grows.rowK R4h.out ((Grows.refl _).ext _ _))
  have hl := run_loadVar_row (P := Try.prog) ((ext wd h3 d3).setRow N4 #[.bool true, .int .i64 X, .int .i64 Y, .bool V, .int .i64 a, .int .i64 u, .int .i64 fk, .int .i64 fn, .int .i64 bk, .int .i64 bn, .int .i64 lk, .int .i64 ln, .int .i64 g0, .int .i64 g1, .int .i64 g2, .int .i64 g3, .int .i64 us, .int .i64 on, .bool og]) N4 80 80 #[.bool true, .int .i64 X, .int .i64 Y, .bool V, .int .i64 a, .int .i64 u, .int .i64 fk, .int .i64 fn, .int .i64 bk, .int .i64 bn, .int .i64 lk, .int .i64 ln, .int .i64 g0, .int .i64 g1, .int .i64 g2, .int .i64 g3, .int .i64 us, .int .i64 on, .bool og] (0, 0) _ hrow Try.underlying80 rfl info80
  refine bodyPost_ret (v := .tuple #[.agg #[.bool true, .int .i64 X, .int .i64 Y, .bool V, .int .i64 a, .int .i64 u, .int .i64 fk, .int .i64 fn, .int .i64 bk, .int .i64 bn, .int .i64 lk, .int .i64 ln, .int .i64 g0, .int .i64 g1, .int .i64 g2, .int .i64 g3, .int .i64 us, .int .i64 on, .bool og], .int .i64 0]) ?_ rfl ?_
  · simp [results, Try.results39, asAddr, hl]
  · exact ⟨rfl, (hG.ext _ _).setRowK hn4 _⟩
set_option maxRecDepth 100000 in
set_option maxHeartbeats 4000000 in
theorem rfsaved_no (r c t b : Int) (o is : Bool) (x y : Int) (wr : Bool) (a u fk fn bk bn lk ln g0 g1 g2 g3 us on : Int) (og : Bool) (h : ∀ W, Calls Try.prog 28 #[.agg #[.int .i64 r, .int .i64 c, .int .i64 t, .int .i64 b, .bool o]] W (Ret (.bool false) W)) (w : World) : Calls Try.prog 40 #[.agg #[.int .i64 r, .int .i64 c, .int .i64 t, .int .i64 b, .bool o], .agg #[.bool is, .int .i64 x, .int .i64 y, .bool wr, .int .i64 a, .int .i64 u, .int .i64 fk, .int .i64 fn, .int .i64 bk, .int .i64 bn, .int .i64 lk, .int .i64 ln, .int .i64 g0, .int .i64 g1, .int .i64 g2, .int .i64 g3, .int .i64 us, .int .i64 on, .bool og]] w (Ret (.tuple #[.agg #[.bool false, .int .i64 0, .int .i64 0, .bool false, .int .i64 0, .int .i64 0, .int .i64 0, .int .i64 0, .int .i64 0, .int .i64 0, .int .i64 0, .int .i64 0, .int .i64 0, .int .i64 0, .int .i64 0, .int .i64 0, .int .i64 0, .int .i64 0, .bool false], .int .i64 270]) w) := by
  have H := Lib.hid h
  clear h
  go_enter Try.func40, Try.ntmps40
  go_upto_region 2 with (go_at_call 28; (with_reducible refine (H.out _).mono ?_); rintro e w' ⟨rfl, h1, d1, rfl⟩)
  refine abs_worldK (fun W => W.heap[w.heap.size + 1 + 1]? = some (.cells #[.bool false, .int .i64 0, .int .i64 0, .bool false, .int .i64 0, .int .i64 0, .int .i64 0, .int .i64 0, .int .i64 0, .int .i64 0, .int .i64 0, .int .i64 0, .int .i64 0, .int .i64 0, .int .i64 0, .int .i64 0, .int .i64 0, .int .i64 0, .bool false] 80 (0, 0)) ∧ W.heap[w.heap.size + 1]? = some (.cells #[.bool is, .int .i64 x, .int .i64 y, .bool wr, .int .i64 a, .int .i64 u, .int .i64 fk, .int .i64 fn, .int .i64 bk, .int .i64 bn, .int .i64 lk, .int .i64 ln, .int .i64 g0, .int .i64 g1, .int .i64 g2, .int .i64 g3, .int .i64 us, .int .i64 on, .bool og] 80 (0, 0)) ∧ Grows w W) ⟨(rowS (by repeat' (first | (with_reducible exact Grows.refl _) | (with_reducible refine Grows.alloc ?_ _) | (with_reducible refine Grows.drew ?_) | (with_reducible refine Grows.ext ?_ _ _)))).1, (rowS (by repeat' (first | (with_reducible exact Grows.refl _) | (with_reducible refine Grows.alloc ?_ _) | (with_reducible refine Grows.drew ?_) | (with_reducible refine Grows.ext ?_ _ _)))).2, (by repeat' (first | (with_reducible exact Grows.refl _) | (with_reducible refine Grows.alloc ?_ _) | (with_reducible refine Grows.drew ?_) | (with_reducible refine Grows.ext ?_ _ _)))⟩ ?_
  rintro wc ⟨R4, R3, hG⟩
  have R4h := Lib.hid R4
  have hn4 : w.heap.size ≤ w.heap.size + 1 + 1 := by omega
  clear R4 R3
  generalize w.heap.size + 1 + 1 = N4 at *
  go_wp2_with (refine wpList_store_row rfl 80 (.tmp 4) (.tmp 9) rfl N4 #[.bool false, .int .i64 0, .int .i64 0, .bool false, .int .i64 0, .int .i64 0, .int .i64 0, .int .i64 0, .int .i64 0, .int .i64 0, .int .i64 0, .int .i64 0, .int .i64 0, .int .i64 0, .int .i64 0, .int .i64 0, .int .i64 0, .int .i64 0, .bool false] rfl rfl 80 #[.bool false, .int .i64 0, .int .i64 0, .bool false, .int .i64 0, .int .i64 0, .int .i64 0, .int .i64 0, .int .i64 0, .int .i64 0, .int .i64 0, .int .i64 0, .int .i64 0, .int .i64 0, .int .i64 0, .int .i64 0, .int .i64 0, .int .i64 0, .bool false] R4h.out info80 rfl oneZ ?_)
  have hrow := setRow_heap wc N4 #[.bool false, .int .i64 0, .int .i64 0, .bool false, .int .i64 0, .int .i64 0, .int .i64 0, .int .i64 0, .int .i64 0, .int .i64 0, .int .i64 0, .int .i64 0, .int .i64 0, .int .i64 0, .int .i64 0, .int .i64 0, .int .i64 0, .int .i64 0, .bool false] #[.bool false, .int .i64 0, .int .i64 0, .bool false, .int .i64 0, .int .i64 0, .int .i64 0, .int .i64 0, .int .i64 0, .int .i64 0, .int .i64 0, .int .i64 0, .int .i64 0, .int .i64 0, .int .i64 0, .int .i64 0, .int .i64 0, .int .i64 0, .bool false] 80 (0, 0) R4h.out
  have hl := run_loadVar_row (P := Try.prog) (wc.setRow N4 #[.bool false, .int .i64 0, .int .i64 0, .bool false, .int .i64 0, .int .i64 0, .int .i64 0, .int .i64 0, .int .i64 0, .int .i64 0, .int .i64 0, .int .i64 0, .int .i64 0, .int .i64 0, .int .i64 0, .int .i64 0, .int .i64 0, .int .i64 0, .bool false]) N4 80 80 #[.bool false, .int .i64 0, .int .i64 0, .bool false, .int .i64 0, .int .i64 0, .int .i64 0, .int .i64 0, .int .i64 0, .int .i64 0, .int .i64 0, .int .i64 0, .int .i64 0, .int .i64 0, .int .i64 0, .int .i64 0, .int .i64 0, .int .i64 0, .bool false] (0, 0) _ hrow Try.underlying80 rfl info80
  refine bodyPost_ret (v := .tuple #[.agg #[.bool false, .int .i64 0, .int .i64 0, .bool false, .int .i64 0, .int .i64 0, .int .i64 0, .int .i64 0, .int .i64 0, .int .i64 0, .int .i64 0, .int .i64 0, .int .i64 0, .int .i64 0, .int .i64 0, .int .i64 0, .int .i64 0, .int .i64 0, .bool false], .int .i64 270]) ?_ rfl ?_
  · simp [results, Try.results40, asAddr, hl]
  · exact ⟨rfl, hG.setRowK hn4 _⟩
set_option maxRecDepth 100000 in
set_option maxHeartbeats 4000000 in
theorem rfsaved_not (r c t b : Int) (o : Bool) (x y : Int) (wr : Bool) (a u fk fn bk bn lk ln g0 g1 g2 g3 us on : Int) (og : Bool) (h : ∀ W, Calls Try.prog 28 #[.agg #[.int .i64 r, .int .i64 c, .int .i64 t, .int .i64 b, .bool o]] W (Ret (.bool true) W)) (w : World) : Calls Try.prog 40 #[.agg #[.int .i64 r, .int .i64 c, .int .i64 t, .int .i64 b, .bool o], .agg #[.bool false, .int .i64 x, .int .i64 y, .bool wr, .int .i64 a, .int .i64 u, .int .i64 fk, .int .i64 fn, .int .i64 bk, .int .i64 bn, .int .i64 lk, .int .i64 ln, .int .i64 g0, .int .i64 g1, .int .i64 g2, .int .i64 g3, .int .i64 us, .int .i64 on, .bool og]] w (Ret (.tuple #[.agg #[.bool false, .int .i64 0, .int .i64 0, .bool false, .int .i64 0, .int .i64 0, .int .i64 0, .int .i64 0, .int .i64 0, .int .i64 0, .int .i64 0, .int .i64 0, .int .i64 0, .int .i64 0, .int .i64 0, .int .i64 0, .int .i64 0, .int .i64 0, .bool false], .int .i64 0]) w) := by
  have H := Lib.hid h
  clear h
  go_enter Try.func40, Try.ntmps40
  go_upto_region 4 with (go_at_call 28; (with_reducible refine (H.out _).mono ?_); rintro e w' ⟨rfl, h1, d1, rfl⟩)
  refine abs_worldK (fun W => W.heap[w.heap.size + 1 + 1]? = some (.cells #[.bool false, .int .i64 0, .int .i64 0, .bool false, .int .i64 0, .int .i64 0, .int .i64 0, .int .i64 0, .int .i64 0, .int .i64 0, .int .i64 0, .int .i64 0, .int .i64 0, .int .i64 0, .int .i64 0, .int .i64 0, .int .i64 0, .int .i64 0, .bool false] 80 (0, 0)) ∧ W.heap[w.heap.size + 1]? = some (.cells #[.bool false, .int .i64 x, .int .i64 y, .bool wr, .int .i64 a, .int .i64 u, .int .i64 fk, .int .i64 fn, .int .i64 bk, .int .i64 bn, .int .i64 lk, .int .i64 ln, .int .i64 g0, .int .i64 g1, .int .i64 g2, .int .i64 g3, .int .i64 us, .int .i64 on, .bool og] 80 (0, 0)) ∧ Grows w W) ⟨(rowS (by repeat' (first | (with_reducible exact Grows.refl _) | (with_reducible refine Grows.alloc ?_ _) | (with_reducible refine Grows.drew ?_) | (with_reducible refine Grows.ext ?_ _ _)))).1, (rowS (by repeat' (first | (with_reducible exact Grows.refl _) | (with_reducible refine Grows.alloc ?_ _) | (with_reducible refine Grows.drew ?_) | (with_reducible refine Grows.ext ?_ _ _)))).2, (by repeat' (first | (with_reducible exact Grows.refl _) | (with_reducible refine Grows.alloc ?_ _) | (with_reducible refine Grows.drew ?_) | (with_reducible refine Grows.ext ?_ _ _)))⟩ ?_
  rintro wc ⟨R4, R3, hG⟩
  have R4h := Lib.hid R4
  have hn4 : w.heap.size ≤ w.heap.size + 1 + 1 := by omega
  clear R4 R3
  generalize w.heap.size + 1 + 1 = N4 at *
  go_wp2_with (refine wpList_store_row rfl 80 (.tmp 4) (.tmp 13) rfl N4 #[.bool false, .int .i64 0, .int .i64 0, .bool false, .int .i64 0, .int .i64 0, .int .i64 0, .int .i64 0, .int .i64 0, .int .i64 0, .int .i64 0, .int .i64 0, .int .i64 0, .int .i64 0, .int .i64 0, .int .i64 0, .int .i64 0, .int .i64 0, .bool false] rfl rfl 80 #[.bool false, .int .i64 0, .int .i64 0, .bool false, .int .i64 0, .int .i64 0, .int .i64 0, .int .i64 0, .int .i64 0, .int .i64 0, .int .i64 0, .int .i64 0, .int .i64 0, .int .i64 0, .int .i64 0, .int .i64 0, .int .i64 0, .int .i64 0, .bool false] R4h.out info80 rfl oneZ ?_)
  have hrow := setRow_heap wc N4 #[.bool false, .int .i64 0, .int .i64 0, .bool false, .int .i64 0, .int .i64 0, .int .i64 0, .int .i64 0, .int .i64 0, .int .i64 0, .int .i64 0, .int .i64 0, .int .i64 0, .int .i64 0, .int .i64 0, .int .i64 0, .int .i64 0, .int .i64 0, .bool false] #[.bool false, .int .i64 0, .int .i64 0, .bool false, .int .i64 0, .int .i64 0, .int .i64 0, .int .i64 0, .int .i64 0, .int .i64 0, .int .i64 0, .int .i64 0, .int .i64 0, .int .i64 0, .int .i64 0, .int .i64 0, .int .i64 0, .int .i64 0, .bool false] 80 (0, 0) R4h.out
  have hl := run_loadVar_row (P := Try.prog) (wc.setRow N4 #[.bool false, .int .i64 0, .int .i64 0, .bool false, .int .i64 0, .int .i64 0, .int .i64 0, .int .i64 0, .int .i64 0, .int .i64 0, .int .i64 0, .int .i64 0, .int .i64 0, .int .i64 0, .int .i64 0, .int .i64 0, .int .i64 0, .int .i64 0, .bool false]) N4 80 80 #[.bool false, .int .i64 0, .int .i64 0, .bool false, .int .i64 0, .int .i64 0, .int .i64 0, .int .i64 0, .int .i64 0, .int .i64 0, .int .i64 0, .int .i64 0, .int .i64 0, .int .i64 0, .int .i64 0, .int .i64 0, .int .i64 0, .int .i64 0, .bool false] (0, 0) _ hrow Try.underlying80 rfl info80
  refine bodyPost_ret (v := .tuple #[.agg #[.bool false, .int .i64 0, .int .i64 0, .bool false, .int .i64 0, .int .i64 0, .int .i64 0, .int .i64 0, .int .i64 0, .int .i64 0, .int .i64 0, .int .i64 0, .int .i64 0, .int .i64 0, .int .i64 0, .int .i64 0, .int .i64 0, .int .i64 0, .bool false], .int .i64 0]) ?_ rfl ?_
  · simp [results, Try.results40, asAddr, hl]
  · exact ⟨rfl, hG.setRowK hn4 _⟩
set_option maxRecDepth 100000 in
set_option maxHeartbeats 4000000 in
theorem rfsaved_bad (r c t b : Int) (o : Bool) (x y : Int) (wr : Bool) (a u fk fn bk bn lk ln g0 g1 g2 g3 us on : Int) (og : Bool) (X Y : Int) (V : Bool) (h : ∀ W, Calls Try.prog 28 #[.agg #[.int .i64 r, .int .i64 c, .int .i64 t, .int .i64 b, .bool o]] W (Ret (.bool true) W)) (h1 : ∀ W, Calls Try.prog 38 #[.agg #[.int .i64 r, .int .i64 c, .int .i64 t, .int .i64 b, .bool o], .agg #[.int .i64 x, .int .i64 y, .bool wr]] W (Ret (.agg #[.int .i64 X, .int .i64 Y, .bool V]) W)) (h2 : ∀ W, Calls Try.prog 41 #[.agg #[.int .i64 r, .int .i64 c, .int .i64 t, .int .i64 b, .bool o], .agg #[.bool true, .int .i64 X, .int .i64 Y, .bool V, .int .i64 a, .int .i64 u, .int .i64 fk, .int .i64 fn, .int .i64 bk, .int .i64 bn, .int .i64 lk, .int .i64 ln, .int .i64 g0, .int .i64 g1, .int .i64 g2, .int .i64 g3, .int .i64 us, .int .i64 on, .bool og]] W (Ret (.bool false) W)) (w : World) : Calls Try.prog 40 #[.agg #[.int .i64 r, .int .i64 c, .int .i64 t, .int .i64 b, .bool o], .agg #[.bool true, .int .i64 x, .int .i64 y, .bool wr, .int .i64 a, .int .i64 u, .int .i64 fk, .int .i64 fn, .int .i64 bk, .int .i64 bn, .int .i64 lk, .int .i64 ln, .int .i64 g0, .int .i64 g1, .int .i64 g2, .int .i64 g3, .int .i64 us, .int .i64 on, .bool og]] w (Ret (.tuple #[.agg #[.bool false, .int .i64 0, .int .i64 0, .bool false, .int .i64 0, .int .i64 0, .int .i64 0, .int .i64 0, .int .i64 0, .int .i64 0, .int .i64 0, .int .i64 0, .int .i64 0, .int .i64 0, .int .i64 0, .int .i64 0, .int .i64 0, .int .i64 0, .bool false], .int .i64 272]) w) := by
  have H := Lib.hid h
  clear h
  have H1 := Lib.hid h1
  have H2 := Lib.hid h2
  clear h1 h2
  go_enter Try.func40, Try.ntmps40
  go_upto_region 5 with (go_at_call 28; (with_reducible refine (H.out _).mono ?_); rintro e w' ⟨rfl, h1, d1, rfl⟩)
  refine abs_worldK (fun W => W.heap[w.heap.size + 1 + 1]? = some (.cells #[.bool false, .int .i64 0, .int .i64 0, .bool false, .int .i64 0, .int .i64 0, .int .i64 0, .int .i64 0, .int .i64 0, .int .i64 0, .int .i64 0, .int .i64 0, .int .i64 0, .int .i64 0, .int .i64 0, .int .i64 0, .int .i64 0, .int .i64 0, .bool false] 80 (0, 0)) ∧ W.heap[w.heap.size + 1]? = some (.cells #[.bool true, .int .i64 x, .int .i64 y, .bool wr, .int .i64 a, .int .i64 u, .int .i64 fk, .int .i64 fn, .int .i64 bk, .int .i64 bn, .int .i64 lk, .int .i64 ln, .int .i64 g0, .int .i64 g1, .int .i64 g2, .int .i64 g3, .int .i64 us, .int .i64 on, .bool og] 80 (0, 0)) ∧ Grows w W ∧ FldAt W w.heap.size r c t b o) ⟨(rowS (by repeat' (first | (with_reducible exact Grows.refl _) | (with_reducible refine Grows.alloc ?_ _) | (with_reducible refine Grows.drew ?_) | (with_reducible refine Grows.ext ?_ _ _)))).1, (rowS (by repeat' (first | (with_reducible exact Grows.refl _) | (with_reducible refine Grows.alloc ?_ _) | (with_reducible refine Grows.drew ?_) | (with_reducible refine Grows.ext ?_ _ _)))).2, (by repeat' (first | (with_reducible exact Grows.refl _) | (with_reducible refine Grows.alloc ?_ _) | (with_reducible refine Grows.drew ?_) | (with_reducible refine Grows.ext ?_ _ _))), ⟨by simp [go_sem], by simp [go_sem], by simp [go_sem], by simp [go_sem], by simp [go_sem], by simp [go_sem]⟩⟩ ?_
  rintro wc ⟨R4, R3, hG, hF⟩
  obtain ⟨p0, p1, p2, p3, p4, p5⟩ := hF
  have hF0 : FldAt wc w.heap.size r c t b o := ⟨p0, p1, p2, p3, p4, p5⟩
  have s1 : wc.cell? ⟨w.heap.size + 1, 1, none⟩ = some (.int .i64 x) := (cell_of_row wc _ 1 _ 80 (0, 0) R3).trans rfl
  have s2 : wc.cell? ⟨w.heap.size + 1, 2, none⟩ = some (.int .i64 y) := (cell_of_row wc _ 2 _ 80 (0, 0) R3).trans rfl
  have s3 : wc.cell? ⟨w.heap.size + 1, 3, none⟩ = some (.bool wr) := (cell_of_row wc _ 3 _ 80 (0, 0) R3).trans rfl
  have t1 := frozen_of_row wc (w.heap.size + 1) 1 _ 80 R3
  have t2 := frozen_of_row wc (w.heap.size + 1) 2 _ 80 R3
  have t3 := frozen_of_row wc (w.heap.size + 1) 3 _ 80 R3
  have hsz : w.heap.size + 1 < wc.heap.size := (Array.getElem?_eq_some_iff.1 R3).1
  have r1 := heap_setCell_same wc (w.heap.size + 1) 1 _ 80 (.int .i64 X) R3
  have r2 := heap_setCell_same _ (w.heap.size + 1) 2 _ 80 (.int .i64 Y) r1
  have r3 := heap_setCell_same _ (w.heap.size + 1) 3 _ 80 (.bool V) r2
  have r4 : ((((wc.setCell ⟨w.heap.size + 1, 1, none⟩ (.int .i64 X)).setCell ⟨w.heap.size + 1, 2, none⟩ (.int .i64 Y)).setCell ⟨w.heap.size + 1, 3, none⟩ (.bool V))).heap[w.heap.size + 1 + 1]? = some (.cells #[.bool false, .int .i64 0, .int .i64 0, .bool false, .int .i64 0, .int .i64 0, .int .i64 0, .int .i64 0, .int .i64 0, .int .i64 0, .int .i64 0, .int .i64 0, .int .i64 0, .int .i64 0, .int .i64 0, .int .i64 0, .int .i64 0, .int .i64 0, .bool false] 80 (0, 0)) := by
    rw [heap_setK (by omega), heap_setK (by omega), heap_setK (by omega)]
    exact R4
  have hF' := ((hF0.setK (show ¬ w.heap.size + 1 = w.heap.size by omega) 1 (.int .i64 X)).setK (show ¬ w.heap.size + 1 = w.heap.size by omega) 2 (.int .i64 Y)).setK (show ¬ w.heap.size + 1 = w.heap.size by omega) 3 (.bool V)
  have hn3 : w.heap.size ≤ w.heap.size + 1 := by omega
  have hn4 : w.heap.size ≤ w.heap.size + 1 + 1 := by omega
  have hG' := ((hG.setCell hn3 (.int .i64 X) (i := 1)).setCell hn3 (.int .i64 Y) (i := 2)).setCell hn3 (.bool V) (i := 3)
  have R3h := Lib.hid (show _ = some (Obj.cells #[.bool true, .int .i64 X, .int .i64 Y, .bool V, .int .i64 a, .int .i64 u, .int .i64 fk, .int .i64 fn, .int .i64 bk, .int .i64 bn, .int .i64 lk, .int .i64 ln, .int .i64 g0, .int .i64 g1, .int .i64 g2, .int .i64 g3, .int .i64 us, .int .i64 on, .bool og] 80 (0, 0)) from r3)
  have R4h := Lib.hid r4
  have HF := Lib.hid hF'
  have HG := Lib.hid hG'
  clear R3 R4 r1 r2 r3 r4 hF' hG' hG hF0
  generalize w.heap.size + 1 + 1 = N4 at *
  generalize w.heap.size + 1 = N3 at *
  go_upto_region 6 with (go_at_call 38; (with_reducible refine (H1.out _).mono ?_); rintro e w' ⟨rfl, h4, d4, rfl⟩)
  refine abs_worldK (fun W => W.heap[N4]? = some (.cells #[.bool false, .int .i64 0, .int .i64 0, .bool false, .int .i64 0, .int .i64 0, .int .i64 0, .int .i64 0, .int .i64 0, .int .i64 0, .int .i64 0, .int .i64 0, .int .i64 0, .int .i64 0, .int .i64 0, .int .i64 0, .int .i64 0, .int .i64 0, .bool false] 80 (0, 0)) ∧ W.heap[N3]? = some (.cells #[.bool true, .int .i64 X, .int .i64 Y, .bool V, .int .i64 a, .int .i64 u, .int .i64 fk, .int .i64 fn, .int .i64 bk, .int .i64 bn, .int .i64 lk, .int .i64 ln, .int .i64 g0, .int .i64 g1, .int .i64 g2, .int .i64 g3, .int .i64 us, .int .i64 on, .bool og] 80 (0, 0)) ∧ Grows w W ∧ FldAt W w.heap.size r c t b o) ⟨(Grows.rowK R4h.out ((Grows.refl _).ext _ _)), (Grows.rowK R3h.out ((Grows.refl _).ext _ _)), HG.out.ext _ _, HF.out.grows ((Grows.refl _).ext _ _)⟩ ?_
  clear p0 p1 p2 p3 p4 p5 s1 s2 s3 t1 t2 t3 R3h R4h HF HG hsz
  rintro wd ⟨R4, R3, hG, hF⟩
  obtain ⟨p0, p1, p2, p3, p4, p5⟩ := hF
  have R4h := Lib.hid R4
  have R3h := Lib.hid R3
  clear R4 R3
  go_upto_region 7 with (first | (refine wpList_load_row rfl 80 (.tmp 3) rfl N3 rfl 80 #[.bool true, .int .i64 X, .int .i64 Y, .bool V, .int .i64 a, .int .i64 u, .int .i64 fk, .int .i64 fn, .int .i64 bk, .int .i64 bn, .int .i64 lk, .int .i64 ln, .int .i64 g0, .int .i64 g1, .int .i64 g2, .int .i64 g3, .int .i64 us, .int .i64 on, .bool og] (0, 0) _ R3h.out Try.underlying80 rfl info80 ?_) | (go_at_call 41; (with_reducible refine (H2.out _).mono ?_); rintro e w' ⟨rfl, h3, d3, rfl⟩))
  go_wp2_with (refine wpList_store_row rfl 80 (.tmp 4) (.tmp 23) rfl N4 #[.bool false, .int .i64 0, .int .i64 0, .bool false, .int .i64 0, .int .i64 0, .int .i64 0, .int .i64 0, .int .i64 0, .int .i64 0, .int .i64 0, .int .i64 0, .int .i64 0, .int .i64 0, .int .i64 0, .int .i64 0, .int .i64 0, .int .i64 0, .bool false] rfl rfl 80 #[.bool false, .int .i64 0, .int .i64 0, .bool false, .int .i64 0, .int .i64 0, .int .i64 0, .int .i64 0, .int .i64 0, .int .i64 0, .int .i64 0, .int .i64 0, .int .i64 0, .int .i64 0, .int .i64 0, .int .i64 0, .int .i64 0, .int .i64 0, .bool false] (Grows.rowK R4h.out ((Grows.refl _).ext _ _)) info80 rfl oneZ ?_)
  have hrow := setRow_heap (ext wd h3 d3) N4 #[.bool false, .int .i64 0, .int .i64 0, .bool false, .int .i64 0, .int .i64 0, .int .i64 0, .int .i64 0, .int .i64 0, .int .i64 0, .int .i64 0, .int .i64 0, .int .i64 0, .int .i64 0, .int .i64 0, .int .i64 0, .int .i64 0, .int .i64 0, .bool false] #[.bool false, .int .i64 0, .int .i64 0, .bool false, .int .i64 0, .int .i64 0, .int .i64 0, .int .i64 0, .int .i64 0, .int .i64 0, .int .i64 0, .int .i64 0, .int .i64 0, .int .i64 0, .int .i64 0, .int .i64 0, .int .i64 0, .int .i64 0, .bool false] 80 (0, 0) (Grows.rowK R4h.out ((Grows.refl _).ext _ _))
  have hl := run_loadVar_row (P := Try.prog) ((ext wd h3 d3).setRow N4 #[.bool false, .int .i64 0, .int .i64 0, .bool false, .int .i64 0, .int .i64 0, .int .i64 0, .int .i64 0, .int .i64 0, .int .i64 0, .int .i64 0, .int .i64 0, .int .i64 0, .int .i64 0, .int .i64 0, .int .i64 0, .int .i64 0, .int .i64 0, .bool false]) N4 80 80 #[.bool false, .int .i64 0, .int .i64 0, .bool false, .int .i64 0, .int .i64 0, .int .i64 0, .int .i64 0, .int .i64 0, .int .i64 0, .int .i64 0, .int .i64 0, .int .i64 0, .int .i64 0, .int .i64 0, .int .i64 0, .int .i64 0, .int .i64 0, .bool false] (0, 0) _ hrow Try.underlying80 rfl info80
  refine bodyPost_ret (v := .tuple #[.agg #[.bool false, .int .i64 0, .int .i64 0, .bool false, .int .i64 0, .int .i64 0, .int .i64 0, .int .i64 0, .int .i64 0, .int .i64 0, .int .i64 0, .int .i64 0, .int .i64 0, .int .i64 0, .int .i64 0, .int .i64 0, .int .i64 0, .int .i64 0, .bool false], .int .i64 272]) ?_ rfl ?_
  · simp [results, Try.results40, asAddr, hl]
  · exact ⟨rfl, (hG.ext _ _).setRowK hn4 _⟩
set_option maxRecDepth 100000 in
set_option maxHeartbeats 4000000 in
theorem rfsaved_ok (r c t b : Int) (o : Bool) (x y : Int) (wr : Bool) (a u fk fn bk bn lk ln g0 g1 g2 g3 us on : Int) (og : Bool) (X Y : Int) (V : Bool) (h : ∀ W, Calls Try.prog 28 #[.agg #[.int .i64 r, .int .i64 c, .int .i64 t, .int .i64 b, .bool o]] W (Ret (.bool true) W)) (h1 : ∀ W, Calls Try.prog 38 #[.agg #[.int .i64 r, .int .i64 c, .int .i64 t, .int .i64 b, .bool o], .agg #[.int .i64 x, .int .i64 y, .bool wr]] W (Ret (.agg #[.int .i64 X, .int .i64 Y, .bool V]) W)) (h2 : ∀ W, Calls Try.prog 41 #[.agg #[.int .i64 r, .int .i64 c, .int .i64 t, .int .i64 b, .bool o], .agg #[.bool true, .int .i64 X, .int .i64 Y, .bool V, .int .i64 a, .int .i64 u, .int .i64 fk, .int .i64 fn, .int .i64 bk, .int .i64 bn, .int .i64 lk, .int .i64 ln, .int .i64 g0, .int .i64 g1, .int .i64 g2, .int .i64 g3, .int .i64 us, .int .i64 on, .bool og]] W (Ret (.bool true) W)) (w : World) : Calls Try.prog 40 #[.agg #[.int .i64 r, .int .i64 c, .int .i64 t, .int .i64 b, .bool o], .agg #[.bool true, .int .i64 x, .int .i64 y, .bool wr, .int .i64 a, .int .i64 u, .int .i64 fk, .int .i64 fn, .int .i64 bk, .int .i64 bn, .int .i64 lk, .int .i64 ln, .int .i64 g0, .int .i64 g1, .int .i64 g2, .int .i64 g3, .int .i64 us, .int .i64 on, .bool og]] w (Ret (.tuple #[.agg #[.bool true, .int .i64 X, .int .i64 Y, .bool V, .int .i64 a, .int .i64 u, .int .i64 fk, .int .i64 fn, .int .i64 bk, .int .i64 bn, .int .i64 lk, .int .i64 ln, .int .i64 g0, .int .i64 g1, .int .i64 g2, .int .i64 g3, .int .i64 us, .int .i64 on, .bool og], .int .i64 0]) w) := by
  have H := Lib.hid h
  clear h
  have H1 := Lib.hid h1
  have H2 := Lib.hid h2
  clear h1 h2
  go_enter Try.func40, Try.ntmps40
  go_upto_region 5 with (go_at_call 28; (with_reducible refine (H.out _).mono ?_); rintro e w' ⟨rfl, h1, d1, rfl⟩)
  refine abs_worldK (fun W => W.heap[w.heap.size + 1 + 1]? = some (.cells #[.bool false, .int .i64 0, .int .i64 0, .bool false, .int .i64 0, .int .i64 0, .int .i64 0, .int .i64 0, .int .i64 0, .int .i64 0, .int .i64 0, .int .i64 0, .int .i64 0, .int .i64 0, .int .i64 0, .int .i64 0, .int .i64 0, .int .i64 0, .bool false] 80 (0, 0)) ∧ W.heap[w.heap.size + 1]? = some (.cells #[.bool true, .int .i64 x, .int .i64 y, .bool wr, .int .i64 a, .int .i64 u, .int .i64 fk, .int .i64 fn, .int .i64 bk, .int .i64 bn, .int .i64 lk, .int .i64 ln, .int .i64 g0, .int .i64 g1, .int .i64 g2, .int .i64 g3, .int .i64 us, .int .i64 on, .bool og] 80 (0, 0)) ∧ Grows w W ∧ FldAt W w.heap.size r c t b o) ⟨(rowS (by repeat' (first | (with_reducible exact Grows.refl _) | (with_reducible refine Grows.alloc ?_ _) | (with_reducible refine Grows.drew ?_) | (with_reducible refine Grows.ext ?_ _ _)))).1, (rowS (by repeat' (first | (with_reducible exact Grows.refl _) | (with_reducible refine Grows.alloc ?_ _) | (with_reducible refine Grows.drew ?_) | (with_reducible refine Grows.ext ?_ _ _)))).2, (by repeat' (first | (with_reducible exact Grows.refl _) | (with_reducible refine Grows.alloc ?_ _) | (with_reducible refine Grows.drew ?_) | (with_reducible refine Grows.ext ?_ _ _))), ⟨by simp [go_sem], by simp [go_sem], by simp [go_sem], by simp [go_sem], by simp [go_sem], by simp [go_sem]⟩⟩ ?_
  rintro wc ⟨R4, R3, hG, hF⟩
  obtain ⟨p0, p1, p2, p3, p4, p5⟩ := hF
  have hF0 : FldAt wc w.heap.size r c t b o := ⟨p0, p1, p2, p3, p4, p5⟩
  have s1 : wc.cell? ⟨w.heap.size + 1, 1, none⟩ = some (.int .i64 x) := (cell_of_row wc _ 1 _ 80 (0, 0) R3).trans rfl
  have s2 : wc.cell? ⟨w.heap.size + 1, 2, none⟩ = some (.int .i64 y) := (cell_of_row wc _ 2 _ 80 (0, 0) R3).trans rfl
  have s3 : wc.cell? ⟨w.heap.size + 1, 3, none⟩ = some (.bool wr) := (cell_of_row wc _ 3 _ 80 (0, 0) R3).trans rfl
  have t1 := frozen_of_row wc (w.heap.size + 1) 1 _ 80 R3
  have t2 := frozen_of_row wc (w.heap.size + 1) 2 _ 80 R3
  have t3 := frozen_of_row wc (w.heap.size + 1) 3 _ 80 R3
  have hsz : w.heap.size + 1 < wc.heap.size := (Array.getElem?_eq_some_iff.1 R3).1
  have r1 := heap_setCell_same wc (w.heap.size + 1) 1 _ 80 (.int .i64 X) R3
  have r2 := heap_setCell_same _ (w.heap.size + 1) 2 _ 80 (.int .i64 Y) r1
  have r3 := heap_setCell_same _ (w.heap.size + 1) 3 _ 80 (.bool V) r2
  have r4 : ((((wc.setCell ⟨w.heap.size + 1, 1, none⟩ (.int .i64 X)).setCell ⟨w.heap.size + 1, 2, none⟩ (.int .i64 Y)).setCell ⟨w.heap.size + 1, 3, none⟩ (.bool V))).heap[w.heap.size + 1 + 1]? = some (.cells #[.bool false, .int .i64 0, .int .i64 0, .bool false, .int .i64 0, .int .i64 0, .int .i64 0, .int .i64 0, .int .i64 0, .int .i64 0, .int .i64 0, .int .i64 0, .int .i64 0, .int .i64 0, .int .i64 0, .int .i64 0, .int .i64 0, .int .i64 0, .bool false] 80 (0, 0)) := by
    rw [heap_setK (by omega), heap_setK (by omega), heap_setK (by omega)]
    exact R4
  have hF' := ((hF0.setK (show ¬ w.heap.size + 1 = w.heap.size by omega) 1 (.int .i64 X)).setK (show ¬ w.heap.size + 1 = w.heap.size by omega) 2 (.int .i64 Y)).setK (show ¬ w.heap.size + 1 = w.heap.size by omega) 3 (.bool V)
  have hn3 : w.heap.size ≤ w.heap.size + 1 := by omega
  have hn4 : w.heap.size ≤ w.heap.size + 1 + 1 := by omega
  have hG' := ((hG.setCell hn3 (.int .i64 X) (i := 1)).setCell hn3 (.int .i64 Y) (i := 2)).setCell hn3 (.bool V) (i := 3)
  have R3h := Lib.hid (show _ = some (Obj.cells #[.bool true, .int .i64 X, .int .i64 Y, .bool V, .int .i64 a, .int .i64 u, .int .i64 fk, .int .i64 fn, .int .i64 bk, .int .i64 bn, .int .i64 lk, .int .i64 ln, .int .i64 g0, .int .i64 g1, .int .i64 g2, .int .i64 g3, .int .i64 us, .int .i64 on, .bool og] 80 (0, 0)) from r3)
  have R4h := Lib.hid r4
  have HF := Lib.hid hF'
  have HG := Lib.hid hG'
  clear R3 R4 r1 r2 r3 r4 hF' hG' hG hF0
  generalize w.heap.size + 1 + 1 = N4 at *
  generalize w.heap.size + 1 = N3 at *
  go_upto_region 6 with (go_at_call 38; (with_reducible refine (H1.out _).mono ?_); rintro e w' ⟨rfl, h4, d4, rfl⟩)
  refine abs_worldK (fun W => W.heap[N4]? = some (.cells #[.bool false, .int .i64 0, .int .i64 0, .bool false, .int .i64 0, .int .i64 0, .int .i64 0, .int .i64 0, .int .i64 0, .int .i64 0, .int .i64 0, .int .i64 0, .int .i64 0, .int .i64 0, .int .i64 0, .int .i64 0, .int .i64 0, .int .i64 0, .bool false] 80 (0, 0)) ∧ W.heap[N3]? = some (.cells #[.bool true, .int .i64 X, .int .i64 Y, .bool V, .int .i64 a, .int .i64 u, .int .i64 fk, .int .i64 fn, .int .i64 bk, .int .i64 bn, .int .i64 lk, .int .i64 ln, .int .i64 g0, .int .i64 g1, .int .i64 g2, .int .i64 g3, .int .i64 us, .int .i64 on, .bool og] 80 (0, 0)) ∧ Grows w W ∧ FldAt W w.heap.size r c t b o) ⟨(Grows.rowK R4h.out ((Grows.refl _).ext _ _)), (Grows.rowK R3h.out ((Grows.refl _).ext _ _)), HG.out.ext _ _, HF.out.grows ((Grows.refl _).ext _ _)⟩ ?_
  clear p0 p1 p2 p3 p4 p5 s1 s2 s3 t1 t2 t3 R3h R4h HF HG hsz
  rintro wd ⟨R4, R3, hG, hF⟩
  obtain ⟨p0, p1, p2, p3, p4, p5⟩ := hF
  have R4h := Lib.hid R4
  have R3h := Lib.hid R3
  clear R4 R3
  go_upto_region 8 with (first | (refine wpList_load_row rfl 80 (.tmp 3) rfl N3 rfl 80 #[.bool true, .int .i64 X, .int .i64 Y, .bool V, .int .i64 a, .int .i64 u, .int .i64 fk, .int .i64 fn, .int .i64 bk, .int .i64 bn, .int .i64 lk, .int .i64 ln, .int .i64 g0, .int .i64 g1, .int .i64 g2, .int .i64 g3, .int .i64 us, .int .i64 on, .bool og] (0, 0) _ R3h.out Try.underlying80 rfl info80 ?_) | (go_at_call 41; (with_reducible refine (H2.out _).mono ?_); rintro e w' ⟨rfl, h3, d3, rfl⟩))
  go_wp2_with (first | (refine wpList_load_row rfl 80 (.tmp 3) rfl N3 rfl 80 #[.bool true, .int .i64 X, .int .i64 Y, .bool V, .int .i64 a, .int .i64 u, .int .i64 fk, .int .i64 fn, .int .i64 bk, .int .i64 bn, .int .i64 lk, .int .i64 ln, .int .i64 g0, .int .i64 g1, .int .i64 g2, .int .i64 g3, .int .i64 us, .int .i64 on, .bool og] (0, 0) _ (Grows.rowK R3h.out ((Grows.refl _).ext _ _)) Try.underlying80 rfl info80 ?_) | (refine wpList_store_row rfl 80 (.tmp 4) (.tmp 24) rfl N4 #[.bool true, .int .i64 X, .int .i64 Y, .bool V, .int .i64 a, .int .i64 u, .int .i64 fk, .int .i64 fn, .int .i64 bk, .int .i64 bn, .int .i64 lk, .int .i64 ln, .int .i64 g0, .int .i64 g1, .int .i64 g2, .int .i64 g3, .int .i64 us, .int .i64 on, .bool og] rfl rfl 80 #[.bool false, .int .i64 0, .int .i64 0, .bool false, .int .i64 0, .int .i64 0, .int .i64 0, .int .i64 0, .int .i64 0, .int .i64 0, .int .i64 0, .int .i64 0, .int .i64 0, .int .i64 0, .int .i64 0, .int .i64 0, .int .i64 0, .int .i64 0, .bool false] (Grows.rowK R4h.out ((Grows.refl _).ext _ _)) info80 rfl (oneCells true X Y V a u fk fn bk bn lk ln g0 g1 g2 g3 us on og) ?_))
  have hrow := setRow_heap (ext wd h3 d3) N4 #[.bool false, .int .i64 0, .int .i64 0, .bool false, .int .i64 0, .int .i64 0, .int .i64 0, .int .i64 0, .int .i64 0, .int .i64 0, .int .i64 0, .int .i64 0, .int .i64 0, .int .i64 0, .int .i64 0, .int .i64 0, .int .i64 0, .int .i64 0, .bool false] #[.bool true, .int .i64 X, .int .i64 Y, .bool V, .int .i64 a, .int .i64 u, .int .i64 fk, .int .i64 fn, .int .i64 bk, .int .i64 bn, .int .i64 lk, .int .i64 ln, .int .i64 g0, .int .i64 g1, .int .i64 g2, .int .i64 g3, .int .i64 us, .int .i64 on, .bool og] 80 (0, 0) (Grows.rowK R4h.out ((Grows.refl _).ext _ _))
  have hl := run_loadVar_row (P := Try.prog) ((ext wd h3 d3).setRow N4 #[.bool true, .int .i64 X, .int .i64 Y, .bool V, .int .i64 a, .int .i64 u, .int .i64 fk, .int .i64 fn, .int .i64 bk, .int .i64 bn, .int .i64 lk, .int .i64 ln, .int .i64 g0, .int .i64 g1, .int .i64 g2, .int .i64 g3, .int .i64 us, .int .i64 on, .bool og]) N4 80 80 #[.bool true, .int .i64 X, .int .i64 Y, .bool V, .int .i64 a, .int .i64 u, .int .i64 fk, .int .i64 fn, .int .i64 bk, .int .i64 bn, .int .i64 lk, .int .i64 ln, .int .i64 g0, .int .i64 g1, .int .i64 g2, .int .i64 g3, .int .i64 us, .int .i64 on, .bool og] (0, 0) _ hrow Try.underlying80 rfl info80
  refine bodyPost_ret (v := .tuple #[.agg #[.bool true, .int .i64 X, .int .i64 Y, .bool V, .int .i64 a, .int .i64 u, .int .i64 fk, .int .i64 fn, .int .i64 bk, .int .i64 bn, .int .i64 lk, .int .i64 ln, .int .i64 g0, .int .i64 g1, .int .i64 g2, .int .i64 g3, .int .i64 us, .int .i64 on, .bool og], .int .i64 0]) ?_ rfl ?_
  · simp [results, Try.results40, asAddr, hl]
  · exact ⟨rfl, (hG.ext _ _).setRowK hn4 _⟩
/-- What FitSaved returns: the saved cursor, and an error. -/
def fsOk (ok is v : Bool) : Bool := ok && (is && v)
def fsErr (ok is v : Bool) : Int := if ok then (if is then (if v then 0 else 272) else 0) else 270
def fsRow (k : Bool) (x y : Int) (wr : Bool) (a u fk fn bk bn lk ln g0 g1 g2 g3 us on : Int) (og : Bool) : Array Value := if k then #[.bool true, .int .i64 x, .int .i64 y, .bool wr, .int .i64 a, .int .i64 u, .int .i64 fk, .int .i64 fn, .int .i64 bk, .int .i64 bn, .int .i64 lk, .int .i64 ln, .int .i64 g0, .int .i64 g1, .int .i64 g2, .int .i64 g3, .int .i64 us, .int .i64 on, .bool og] else #[.bool false, .int .i64 0, .int .i64 0, .bool false, .int .i64 0, .int .i64 0, .int .i64 0, .int .i64 0, .int .i64 0, .int .i64 0, .int .i64 0, .int .i64 0, .int .i64 0, .int .i64 0, .int .i64 0, .int .i64 0, .int .i64 0, .int .i64 0, .bool false]
theorem fsaved_any (r c t b : Int) (o is : Bool) (x y : Int) (wr : Bool) (a u fk fn bk bn lk ln g0 g1 g2 g3 us on : Int) (og : Bool) (hi : In64 a) (hu : In64 us) (w : World) : Calls Try.prog 39 #[.agg #[.int .i64 r, .int .i64 c, .int .i64 t, .int .i64 b, .bool o], .agg #[.bool is, .int .i64 x, .int .i64 y, .bool wr, .int .i64 a, .int .i64 u, .int .i64 fk, .int .i64 fn, .int .i64 bk, .int .i64 bn, .int .i64 lk, .int .i64 ln, .int .i64 g0, .int .i64 g1, .int .i64 g2, .int .i64 g3, .int .i64 us, .int .i64 on, .bool og]] w (Ret (.tuple #[.agg (fsRow (fsOk (okF r c t b) is (svB r c true (cl x 0 (r - 1)) (cl y 0 (c - 1)) (wr && y == c - 1) a u fk fn bk bn lk ln g0 g1 g2 g3 us on og)) (cl x 0 (r - 1)) (cl y 0 (c - 1)) (wr && y == c - 1) a u fk fn bk bn lk ln g0 g1 g2 g3 us on og), .int .i64 (fsErr (okF r c t b) is (svB r c true (cl x 0 (r - 1)) (cl y 0 (c - 1)) (wr && y == c - 1) a u fk fn bk bn lk ln g0 g1 g2 g3 us on og))]) w) := by
  cases hk : okF r c t b
  · exact fsaved_no r c t b o is x y wr a u fk fn bk bn lk ln g0 g1 g2 g3 us on og 0 0 false (fun W => fit_no r c t b x y o wr hk W) w
  · have hf := fun W => fit_any r c t b x y o wr hk W
    cases is
    · exact fsaved_not r c t b o x y wr a u fk fn bk bn lk ln g0 g1 g2 g3 us on og _ _ _ hf w
    · have hc := fun W => csaved_any r c t b o true (cl x 0 (r - 1)) (cl y 0 (c - 1)) (wr && y == c - 1) a u fk fn bk bn lk ln g0 g1 g2 g3 us on og hk hi hu W
      cases hv : svB r c true (cl x 0 (r - 1)) (cl y 0 (c - 1)) (wr && y == c - 1) a u fk fn bk bn lk ln g0 g1 g2 g3 us on og
      · rw [hv] at hc
        exact fsaved_bad r c t b o x y wr a u fk fn bk bn lk ln g0 g1 g2 g3 us on og _ _ _ hf hc w
      · rw [hv] at hc
        exact fsaved_ok r c t b o x y wr a u fk fn bk bn lk ln g0 g1 g2 g3 us on og _ _ _ hf hc w
theorem rfsaved_any (r c t b : Int) (o is : Bool) (x y : Int) (wr : Bool) (a u fk fn bk bn lk ln g0 g1 g2 g3 us on : Int) (og : Bool) (hi : In64 a) (w : World) : Calls Try.prog 40 #[.agg #[.int .i64 r, .int .i64 c, .int .i64 t, .int .i64 b, .bool o], .agg #[.bool is, .int .i64 x, .int .i64 y, .bool wr, .int .i64 a, .int .i64 u, .int .i64 fk, .int .i64 fn, .int .i64 bk, .int .i64 bn, .int .i64 lk, .int .i64 ln, .int .i64 g0, .int .i64 g1, .int .i64 g2, .int .i64 g3, .int .i64 us, .int .i64 on, .bool og]] w (Ret (.tuple #[.agg (fsRow (fsOk (okF r c t b) is (svB r c true (cl x 0 (r - 1)) (cl y 0 (c - 1)) (wr && y == c - 1) a u fk fn bk bn lk ln g0 g1 g2 g3 us on og)) (cl x 0 (r - 1)) (cl y 0 (c - 1)) (wr && y == c - 1) a u fk fn bk bn lk ln g0 g1 g2 g3 us on og), .int .i64 (fsErr (okF r c t b) is (svB r c true (cl x 0 (r - 1)) (cl y 0 (c - 1)) (wr && y == c - 1) a u fk fn bk bn lk ln g0 g1 g2 g3 us on og))]) w) := by
  have hr := fun W => right_any r c t b o W
  cases hk : okF r c t b
  · rw [hk] at hr
    exact rfsaved_no r c t b o is x y wr a u fk fn bk bn lk ln g0 g1 g2 g3 us on og hr w
  · rw [hk] at hr
    cases is
    · exact rfsaved_not r c t b o x y wr a u fk fn bk bn lk ln g0 g1 g2 g3 us on og hr w
    · have hc := fun W => saved_any r c t b o true (cl x 0 (r - 1)) (cl y 0 (c - 1)) (wr && y == c - 1) a u fk fn bk bn lk ln g0 g1 g2 g3 us on og hk hi W
      cases hv : svB r c true (cl x 0 (r - 1)) (cl y 0 (c - 1)) (wr && y == c - 1) a u fk fn bk bn lk ln g0 g1 g2 g3 us on og
      · rw [hv] at hc
        exact rfsaved_bad r c t b o x y wr a u fk fn bk bn lk ln g0 g1 g2 g3 us on og _ _ _ hr (fun W => rfit_any r c t b x y o wr hk W) hc w
      · rw [hv] at hc
        exact rfsaved_ok r c t b o x y wr a u fk fn bk bn lk ln g0 g1 g2 g3 us on og _ _ _ hr (fun W => rfit_any r c t b x y o wr hk W) hc w

end Go.Proofs.Ytepbknpdhiaepaa
