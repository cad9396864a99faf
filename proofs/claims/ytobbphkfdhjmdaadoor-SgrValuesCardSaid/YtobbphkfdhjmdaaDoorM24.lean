/-
  SgrValues: its rows. SgrValues.
-/
import Derived.Test.YtobbphkfdhjmdaaDoorRows
import Derived.Test.YtobbphkfdhjmdaaDoorM1
import Derived.Test.YtobbphkfdhjmdaaDoorM9
import Derived.WalkKit
import Derived.WalkSpells
import Derived.WalkLawsBesides
import Derived.Handy
import Derived.Laws.Rows
import Derived.Great.BuildSlice
import Derived.Deep.Heap
import Derived.IntWalk
import Derived.Lib.Hide
import Derived.Outline
import Derived.Deep.Light
import Derived.Deep.LoopGhost
import Derived.BigGuardPart
import Derived.BigQuiet
import Derived.Deep.QuietTactic
import Derived.Deep.RegionHeld3
import Derived.Deep.DeepCutAuto
import Derived.Test.YtobbphkfdhjmdaaDoorM2
import Derived.Test.YtobbphkfdhjmdaaDoorM4
import Derived.Test.YtobbphkfdhjmdaaDoorM10
import Derived.Test.YtobbphkfdhjmdaaDoorM12
import Derived.Test.YtobbphkfdhjmdaaDoorM13
import Derived.Test.YtobbphkfdhjmdaaDoorM15
import Derived.Test.YtobbphkfdhjmdaaDoorM16
import Derived.Test.YtobbphkfdhjmdaaDoorM27
namespace Go.Proofs.YtobbphkfdhjmdaaDoor
open Go.RowKit

theorem alloc_first (w : World) (o : Obj) : w.alloc o = ext w #[o] w.drawn := by
  show (⟨w.heap.push o, w.tape, w.drawn, w.os, w.output⟩ : World) = ⟨w.heap ++ #[o], w.tape, w.drawn, w.os, w.output⟩
  rw [Array.append_singleton]
theorem alloc_more (w : World) (h : Array Obj) (d : Nat) (o : Obj) : (ext w h d).alloc o = ext w (h.push o) d := by
  show (⟨(w.heap ++ h).push o, w.tape, d, w.os, w.output⟩ : World) = ⟨w.heap ++ h.push o, w.tape, d, w.os, w.output⟩
  rw [Array.append_push]
theorem ext_at {w : World} {h : Array Obj} {d k : Nat} {o : Obj} (e : h[k]? = some o) : (ext w h d).heap[w.heap.size + k]? = some o := by
  show (w.heap ++ h)[w.heap.size + k]? = _
  rw [Array.getElem?_append_right (by omega)]
  simpa using e
theorem row_lit {W : World} {b n : Nat} {vs : List Value} {r : List (List Int)} (h : W.heap[b]? = some (.cells vs.toArray 38 (0, 0))) (hn : r.length = n) (hv : ∀ i, i < r.length → ∃ s, vs[i]? = some s ∧ IntsAt W s (r[i]?.getD [])) : RowAt W (.slice (some ⟨b, 0, none⟩) n n) r := by
  subst hn
  refine ⟨_, _, rfl, Nat.le_refl _, fun _ => ⟨b, 0, rfl, (Array.getElem?_eq_some_iff.1 h).1, fun i hi => ?_⟩⟩
  obtain ⟨s, h1, h2⟩ := hv i hi
  refine ⟨s, ?_, h2⟩
  rw [Nat.zero_add, cell_of_row W b i _ 38 (0, 0) h]
  simpa using h1
theorem ints_lit {w : World} {h : Array Obj} {d k n : Nat} {l : List Int} (e : h[k]? = some (.cells (l.map (Value.int .i64 ·)).toArray 3 (0, 0))) (hn : l.length = n) : IntsAt (ext w h d) (.slice (some ⟨w.heap.size + k, 0, none⟩) n n) l := by
  subst hn
  exact told_ints (ext_at e)
/-- A small row at a slice. -/
def SmallAt (W : World) (s : Value) : Prop := ∃ r, RowAt W s r ∧ r.length ≤ 20 ∧ ∀ p ∈ r, p.length ≤ 10
theorem values_rows (w : World) (d : Nat) (n m0 m1 m2 m3 m4 : Int) : ∀ k, k < 5 → ∃ s, (ext w (#[.cells #[.int .i64 (m0), .int .i64 (m1), .int .i64 (m2), .int .i64 (m3), .int .i64 (m4)] 62, .cells #[.int .i64 (n)] 3, .cells #[.slice (some ⟨w.heap.size + 1, 0, none⟩) 1 1] 38, .cells #[.int .i64 (n), .int .i64 (m0)] 3, .cells #[.slice (some ⟨w.heap.size + 3, 0, none⟩) 2 2] 38, .cells #[.int .i64 (n)] 3, .cells #[.int .i64 (m1)] 3, .cells #[.int .i64 (m2)] 3, .cells #[.slice (some ⟨w.heap.size + 5, 0, none⟩) 1 1, .slice (some ⟨w.heap.size + 6, 0, none⟩) 1 1, .slice (some ⟨w.heap.size + 7, 0, none⟩) 1 1] 38, .cells #[.int .i64 (n), .int .i64 (m1), .int .i64 (m2), .int .i64 (m3), .int .i64 (m4)] 3, .cells #[.int .i64 (1)] 3, .cells #[.slice (some ⟨w.heap.size + 9, 0, none⟩) 5 5, .slice (some ⟨w.heap.size + 10, 0, none⟩) 1 1] 38, .cells #[.int .i64 (n)] 3, .cells #[.int .i64 (2)] 3, .cells #[.int .i64 (m2)] 3, .cells #[.int .i64 (m3)] 3, .cells #[.int .i64 (m4)] 3, .cells #[.int .i64 (n)] 3, .cells #[.slice (some ⟨w.heap.size + 12, 0, none⟩) 1 1, .slice (some ⟨w.heap.size + 13, 0, none⟩) 1 1, .slice (some ⟨w.heap.size + 14, 0, none⟩) 1 1, .slice (some ⟨w.heap.size + 15, 0, none⟩) 1 1, .slice (some ⟨w.heap.size + 16, 0, none⟩) 1 1, .slice (some ⟨w.heap.size + 17, 0, none⟩) 1 1] 38, .cells #[.slice (some ⟨w.heap.size + 2, 0, none⟩) 1 1, .slice (some ⟨w.heap.size + 4, 0, none⟩) 1 1, .slice (some ⟨w.heap.size + 8, 0, none⟩) 3 3, .slice (some ⟨w.heap.size + 11, 0, none⟩) 2 2, .slice (some ⟨w.heap.size + 18, 0, none⟩) 6 6] 63]) d).cell? ⟨w.heap.size + 19, k, none⟩ = some s ∧ SmallAt (ext w (#[.cells #[.int .i64 (m0), .int .i64 (m1), .int .i64 (m2), .int .i64 (m3), .int .i64 (m4)] 62, .cells #[.int .i64 (n)] 3, .cells #[.slice (some ⟨w.heap.size + 1, 0, none⟩) 1 1] 38, .cells #[.int .i64 (n), .int .i64 (m0)] 3, .cells #[.slice (some ⟨w.heap.size + 3, 0, none⟩) 2 2] 38, .cells #[.int .i64 (n)] 3, .cells #[.int .i64 (m1)] 3, .cells #[.int .i64 (m2)] 3, .cells #[.slice (some ⟨w.heap.size + 5, 0, none⟩) 1 1, .slice (some ⟨w.heap.size + 6, 0, none⟩) 1 1, .slice (some ⟨w.heap.size + 7, 0, none⟩) 1 1] 38, .cells #[.int .i64 (n), .int .i64 (m1), .int .i64 (m2), .int .i64 (m3), .int .i64 (m4)] 3, .cells #[.int .i64 (1)] 3, .cells #[.slice (some ⟨w.heap.size + 9, 0, none⟩) 5 5, .slice (some ⟨w.heap.size + 10, 0, none⟩) 1 1] 38, .cells #[.int .i64 (n)] 3, .cells #[.int .i64 (2)] 3, .cells #[.int .i64 (m2)] 3, .cells #[.int .i64 (m3)] 3, .cells #[.int .i64 (m4)] 3, .cells #[.int .i64 (n)] 3, .cells #[.slice (some ⟨w.heap.size + 12, 0, none⟩) 1 1, .slice (some ⟨w.heap.size + 13, 0, none⟩) 1 1, .slice (some ⟨w.heap.size + 14, 0, none⟩) 1 1, .slice (some ⟨w.heap.size + 15, 0, none⟩) 1 1, .slice (some ⟨w.heap.size + 16, 0, none⟩) 1 1, .slice (some ⟨w.heap.size + 17, 0, none⟩) 1 1] 38, .cells #[.slice (some ⟨w.heap.size + 2, 0, none⟩) 1 1, .slice (some ⟨w.heap.size + 4, 0, none⟩) 1 1, .slice (some ⟨w.heap.size + 8, 0, none⟩) 3 3, .slice (some ⟨w.heap.size + 11, 0, none⟩) 2 2, .slice (some ⟨w.heap.size + 18, 0, none⟩) 6 6] 63]) d) s := by
  have hg := ext_at (w := w) (d := d) (h := #[.cells #[.int .i64 (m0), .int .i64 (m1), .int .i64 (m2), .int .i64 (m3), .int .i64 (m4)] 62, .cells #[.int .i64 (n)] 3, .cells #[.slice (some ⟨w.heap.size + 1, 0, none⟩) 1 1] 38, .cells #[.int .i64 (n), .int .i64 (m0)] 3, .cells #[.slice (some ⟨w.heap.size + 3, 0, none⟩) 2 2] 38, .cells #[.int .i64 (n)] 3, .cells #[.int .i64 (m1)] 3, .cells #[.int .i64 (m2)] 3, .cells #[.slice (some ⟨w.heap.size + 5, 0, none⟩) 1 1, .slice (some ⟨w.heap.size + 6, 0, none⟩) 1 1, .slice (some ⟨w.heap.size + 7, 0, none⟩) 1 1] 38, .cells #[.int .i64 (n), .int .i64 (m1), .int .i64 (m2), .int .i64 (m3), .int .i64 (m4)] 3, .cells #[.int .i64 (1)] 3, .cells #[.slice (some ⟨w.heap.size + 9, 0, none⟩) 5 5, .slice (some ⟨w.heap.size + 10, 0, none⟩) 1 1] 38, .cells #[.int .i64 (n)] 3, .cells #[.int .i64 (2)] 3, .cells #[.int .i64 (m2)] 3, .cells #[.int .i64 (m3)] 3, .cells #[.int .i64 (m4)] 3, .cells #[.int .i64 (n)] 3, .cells #[.slice (some ⟨w.heap.size + 12, 0, none⟩) 1 1, .slice (some ⟨w.heap.size + 13, 0, none⟩) 1 1, .slice (some ⟨w.heap.size + 14, 0, none⟩) 1 1, .slice (some ⟨w.heap.size + 15, 0, none⟩) 1 1, .slice (some ⟨w.heap.size + 16, 0, none⟩) 1 1, .slice (some ⟨w.heap.size + 17, 0, none⟩) 1 1] 38, .cells #[.slice (some ⟨w.heap.size + 2, 0, none⟩) 1 1, .slice (some ⟨w.heap.size + 4, 0, none⟩) 1 1, .slice (some ⟨w.heap.size + 8, 0, none⟩) 3 3, .slice (some ⟨w.heap.size + 11, 0, none⟩) 2 2, .slice (some ⟨w.heap.size + 18, 0, none⟩) 6 6] 63]) (k := 19) rfl
  have r0 : RowAt (ext w (#[.cells #[.int .i64 (m0), .int .i64 (m1), .int .i64 (m2), .int .i64 (m3), .int .i64 (m4)] 62, .cells #[.int .i64 (n)] 3, .cells #[.slice (some ⟨w.heap.size + 1, 0, none⟩) 1 1] 38, .cells #[.int .i64 (n), .int .i64 (m0)] 3, .cells #[.slice (some ⟨w.heap.size + 3, 0, none⟩) 2 2] 38, .cells #[.int .i64 (n)] 3, .cells #[.int .i64 (m1)] 3, .cells #[.int .i64 (m2)] 3, .cells #[.slice (some ⟨w.heap.size + 5, 0, none⟩) 1 1, .slice (some ⟨w.heap.size + 6, 0, none⟩) 1 1, .slice (some ⟨w.heap.size + 7, 0, none⟩) 1 1] 38, .cells #[.int .i64 (n), .int .i64 (m1), .int .i64 (m2), .int .i64 (m3), .int .i64 (m4)] 3, .cells #[.int .i64 (1)] 3, .cells #[.slice (some ⟨w.heap.size + 9, 0, none⟩) 5 5, .slice (some ⟨w.heap.size + 10, 0, none⟩) 1 1] 38, .cells #[.int .i64 (n)] 3, .cells #[.int .i64 (2)] 3, .cells #[.int .i64 (m2)] 3, .cells #[.int .i64 (m3)] 3, .cells #[.int .i64 (m4)] 3, .cells #[.int .i64 (n)] 3, .cells #[.slice (some ⟨w.heap.size + 12, 0, none⟩) 1 1, .slice (some ⟨w.heap.size + 13, 0, none⟩) 1 1, .slice (some ⟨w.heap.size + 14, 0, none⟩) 1 1, .slice (some ⟨w.heap.size + 15, 0, none⟩) 1 1, .slice (some ⟨w.heap.size + 16, 0, none⟩) 1 1, .slice (some ⟨w.heap.size + 17, 0, none⟩) 1 1] 38, .cells #[.slice (some ⟨w.heap.size + 2, 0, none⟩) 1 1, .slice (some ⟨w.heap.size + 4, 0, none⟩) 1 1, .slice (some ⟨w.heap.size + 8, 0, none⟩) 3 3, .slice (some ⟨w.heap.size + 11, 0, none⟩) 2 2, .slice (some ⟨w.heap.size + 18, 0, none⟩) 6 6] 63]) d) (.slice (some ⟨w.heap.size + 2, 0, none⟩) 1 1) [[n]] := row_lit (vs := [.slice (some ⟨w.heap.size + 1, 0, none⟩) 1 1]) (ext_at rfl) rfl (fun i hi => by
    match i, hi with
    | 0, _ => exact ⟨_, rfl, ints_lit (l := [n]) rfl rfl⟩
    | i + 1, hi => exact absurd hi (by simp))
  have r1 : RowAt (ext w (#[.cells #[.int .i64 (m0), .int .i64 (m1), .int .i64 (m2), .int .i64 (m3), .int .i64 (m4)] 62, .cells #[.int .i64 (n)] 3, .cells #[.slice (some ⟨w.heap.size + 1, 0, none⟩) 1 1] 38, .cells #[.int .i64 (n), .int .i64 (m0)] 3, .cells #[.slice (some ⟨w.heap.size + 3, 0, none⟩) 2 2] 38, .cells #[.int .i64 (n)] 3, .cells #[.int .i64 (m1)] 3, .cells #[.int .i64 (m2)] 3, .cells #[.slice (some ⟨w.heap.size + 5, 0, none⟩) 1 1, .slice (some ⟨w.heap.size + 6, 0, none⟩) 1 1, .slice (some ⟨w.heap.size + 7, 0, none⟩) 1 1] 38, .cells #[.int .i64 (n), .int .i64 (m1), .int .i64 (m2), .int .i64 (m3), .int .i64 (m4)] 3, .cells #[.int .i64 (1)] 3, .cells #[.slice (some ⟨w.heap.size + 9, 0, none⟩) 5 5, .slice (some ⟨w.heap.size + 10, 0, none⟩) 1 1] 38, .cells #[.int .i64 (n)] 3, .cells #[.int .i64 (2)] 3, .cells #[.int .i64 (m2)] 3, .cells #[.int .i64 (m3)] 3, .cells #[.int .i64 (m4)] 3, .cells #[.int .i64 (n)] 3, .cells #[.slice (some ⟨w.heap.size + 12, 0, none⟩) 1 1, .slice (some ⟨w.heap.size + 13, 0, none⟩) 1 1, .slice (some ⟨w.heap.size + 14, 0, none⟩) 1 1, .slice (some ⟨w.heap.size + 15, 0, none⟩) 1 1, .slice (some ⟨w.heap.size + 16, 0, none⟩) 1 1, .slice (some ⟨w.heap.size + 17, 0, none⟩) 1 1] 38, .cells #[.slice (some ⟨w.heap.size + 2, 0, none⟩) 1 1, .slice (some ⟨w.heap.size + 4, 0, none⟩) 1 1, .slice (some ⟨w.heap.size + 8, 0, none⟩) 3 3, .slice (some ⟨w.heap.size + 11, 0, none⟩) 2 2, .slice (some ⟨w.heap.size + 18, 0, none⟩) 6 6] 63]) d) (.slice (some ⟨w.heap.size + 4, 0, none⟩) 1 1) [[n, m0]] := row_lit (vs := [.slice (some ⟨w.heap.size + 3, 0, none⟩) 2 2]) (ext_at rfl) rfl (fun i hi => by
    match i, hi with
    | 0, _ => exact ⟨_, rfl, ints_lit (l := [n, m0]) rfl rfl⟩
    | i + 1, hi => exact absurd hi (by simp))
  have r2 : RowAt (ext w (#[.cells #[.int .i64 (m0), .int .i64 (m1), .int .i64 (m2), .int .i64 (m3), .int .i64 (m4)] 62, .cells #[.int .i64 (n)] 3, .cells #[.slice (some ⟨w.heap.size + 1, 0, none⟩) 1 1] 38, .cells #[.int .i64 (n), .int .i64 (m0)] 3, .cells #[.slice (some ⟨w.heap.size + 3, 0, none⟩) 2 2] 38, .cells #[.int .i64 (n)] 3, .cells #[.int .i64 (m1)] 3, .cells #[.int .i64 (m2)] 3, .cells #[.slice (some ⟨w.heap.size + 5, 0, none⟩) 1 1, .slice (some ⟨w.heap.size + 6, 0, none⟩) 1 1, .slice (some ⟨w.heap.size + 7, 0, none⟩) 1 1] 38, .cells #[.int .i64 (n), .int .i64 (m1), .int .i64 (m2), .int .i64 (m3), .int .i64 (m4)] 3, .cells #[.int .i64 (1)] 3, .cells #[.slice (some ⟨w.heap.size + 9, 0, none⟩) 5 5, .slice (some ⟨w.heap.size + 10, 0, none⟩) 1 1] 38, .cells #[.int .i64 (n)] 3, .cells #[.int .i64 (2)] 3, .cells #[.int .i64 (m2)] 3, .cells #[.int .i64 (m3)] 3, .cells #[.int .i64 (m4)] 3, .cells #[.int .i64 (n)] 3, .cells #[.slice (some ⟨w.heap.size + 12, 0, none⟩) 1 1, .slice (some ⟨w.heap.size + 13, 0, none⟩) 1 1, .slice (some ⟨w.heap.size + 14, 0, none⟩) 1 1, .slice (some ⟨w.heap.size + 15, 0, none⟩) 1 1, .slice (some ⟨w.heap.size + 16, 0, none⟩) 1 1, .slice (some ⟨w.heap.size + 17, 0, none⟩) 1 1] 38, .cells #[.slice (some ⟨w.heap.size + 2, 0, none⟩) 1 1, .slice (some ⟨w.heap.size + 4, 0, none⟩) 1 1, .slice (some ⟨w.heap.size + 8, 0, none⟩) 3 3, .slice (some ⟨w.heap.size + 11, 0, none⟩) 2 2, .slice (some ⟨w.heap.size + 18, 0, none⟩) 6 6] 63]) d) (.slice (some ⟨w.heap.size + 8, 0, none⟩) 3 3) [[n], [m1], [m2]] := row_lit (vs := [.slice (some ⟨w.heap.size + 5, 0, none⟩) 1 1, .slice (some ⟨w.heap.size + 6, 0, none⟩) 1 1, .slice (some ⟨w.heap.size + 7, 0, none⟩) 1 1]) (ext_at rfl) rfl (fun i hi => by
    match i, hi with
    | 0, _ => exact ⟨_, rfl, ints_lit (l := [n]) rfl rfl⟩
    | 1, _ => exact ⟨_, rfl, ints_lit (l := [m1]) rfl rfl⟩
    | 2, _ => exact ⟨_, rfl, ints_lit (l := [m2]) rfl rfl⟩
    | i + 3, hi => exact absurd hi (by simp))
  have r3 : RowAt (ext w (#[.cells #[.int .i64 (m0), .int .i64 (m1), .int .i64 (m2), .int .i64 (m3), .int .i64 (m4)] 62, .cells #[.int .i64 (n)] 3, .cells #[.slice (some ⟨w.heap.size + 1, 0, none⟩) 1 1] 38, .cells #[.int .i64 (n), .int .i64 (m0)] 3, .cells #[.slice (some ⟨w.heap.size + 3, 0, none⟩) 2 2] 38, .cells #[.int .i64 (n)] 3, .cells #[.int .i64 (m1)] 3, .cells #[.int .i64 (m2)] 3, .cells #[.slice (some ⟨w.heap.size + 5, 0, none⟩) 1 1, .slice (some ⟨w.heap.size + 6, 0, none⟩) 1 1, .slice (some ⟨w.heap.size + 7, 0, none⟩) 1 1] 38, .cells #[.int .i64 (n), .int .i64 (m1), .int .i64 (m2), .int .i64 (m3), .int .i64 (m4)] 3, .cells #[.int .i64 (1)] 3, .cells #[.slice (some ⟨w.heap.size + 9, 0, none⟩) 5 5, .slice (some ⟨w.heap.size + 10, 0, none⟩) 1 1] 38, .cells #[.int .i64 (n)] 3, .cells #[.int .i64 (2)] 3, .cells #[.int .i64 (m2)] 3, .cells #[.int .i64 (m3)] 3, .cells #[.int .i64 (m4)] 3, .cells #[.int .i64 (n)] 3, .cells #[.slice (some ⟨w.heap.size + 12, 0, none⟩) 1 1, .slice (some ⟨w.heap.size + 13, 0, none⟩) 1 1, .slice (some ⟨w.heap.size + 14, 0, none⟩) 1 1, .slice (some ⟨w.heap.size + 15, 0, none⟩) 1 1, .slice (some ⟨w.heap.size + 16, 0, none⟩) 1 1, .slice (some ⟨w.heap.size + 17, 0, none⟩) 1 1] 38, .cells #[.slice (some ⟨w.heap.size + 2, 0, none⟩) 1 1, .slice (some ⟨w.heap.size + 4, 0, none⟩) 1 1, .slice (some ⟨w.heap.size + 8, 0, none⟩) 3 3, .slice (some ⟨w.heap.size + 11, 0, none⟩) 2 2, .slice (some ⟨w.heap.size + 18, 0, none⟩) 6 6] 63]) d) (.slice (some ⟨w.heap.size + 11, 0, none⟩) 2 2) [[n, m1, m2, m3, m4], [1]] := row_lit (vs := [.slice (some ⟨w.heap.size + 9, 0, none⟩) 5 5, .slice (some ⟨w.heap.size + 10, 0, none⟩) 1 1]) (ext_at rfl) rfl (fun i hi => by
    match i, hi with
    | 0, _ => exact ⟨_, rfl, ints_lit (l := [n, m1, m2, m3, m4]) rfl rfl⟩
    | 1, _ => exact ⟨_, rfl, ints_lit (l := [1]) rfl rfl⟩
    | i + 2, hi => exact absurd hi (by simp))
  have r4 : RowAt (ext w (#[.cells #[.int .i64 (m0), .int .i64 (m1), .int .i64 (m2), .int .i64 (m3), .int .i64 (m4)] 62, .cells #[.int .i64 (n)] 3, .cells #[.slice (some ⟨w.heap.size + 1, 0, none⟩) 1 1] 38, .cells #[.int .i64 (n), .int .i64 (m0)] 3, .cells #[.slice (some ⟨w.heap.size + 3, 0, none⟩) 2 2] 38, .cells #[.int .i64 (n)] 3, .cells #[.int .i64 (m1)] 3, .cells #[.int .i64 (m2)] 3, .cells #[.slice (some ⟨w.heap.size + 5, 0, none⟩) 1 1, .slice (some ⟨w.heap.size + 6, 0, none⟩) 1 1, .slice (some ⟨w.heap.size + 7, 0, none⟩) 1 1] 38, .cells #[.int .i64 (n), .int .i64 (m1), .int .i64 (m2), .int .i64 (m3), .int .i64 (m4)] 3, .cells #[.int .i64 (1)] 3, .cells #[.slice (some ⟨w.heap.size + 9, 0, none⟩) 5 5, .slice (some ⟨w.heap.size + 10, 0, none⟩) 1 1] 38, .cells #[.int .i64 (n)] 3, .cells #[.int .i64 (2)] 3, .cells #[.int .i64 (m2)] 3, .cells #[.int .i64 (m3)] 3, .cells #[.int .i64 (m4)] 3, .cells #[.int .i64 (n)] 3, .cells #[.slice (some ⟨w.heap.size + 12, 0, none⟩) 1 1, .slice (some ⟨w.heap.size + 13, 0, none⟩) 1 1, .slice (some ⟨w.heap.size + 14, 0, none⟩) 1 1, .slice (some ⟨w.heap.size + 15, 0, none⟩) 1 1, .slice (some ⟨w.heap.size + 16, 0, none⟩) 1 1, .slice (some ⟨w.heap.size + 17, 0, none⟩) 1 1] 38, .cells #[.slice (some ⟨w.heap.size + 2, 0, none⟩) 1 1, .slice (some ⟨w.heap.size + 4, 0, none⟩) 1 1, .slice (some ⟨w.heap.size + 8, 0, none⟩) 3 3, .slice (some ⟨w.heap.size + 11, 0, none⟩) 2 2, .slice (some ⟨w.heap.size + 18, 0, none⟩) 6 6] 63]) d) (.slice (some ⟨w.heap.size + 18, 0, none⟩) 6 6) [[n], [2], [m2], [m3], [m4], [n]] := row_lit (vs := [.slice (some ⟨w.heap.size + 12, 0, none⟩) 1 1, .slice (some ⟨w.heap.size + 13, 0, none⟩) 1 1, .slice (some ⟨w.heap.size + 14, 0, none⟩) 1 1, .slice (some ⟨w.heap.size + 15, 0, none⟩) 1 1, .slice (some ⟨w.heap.size + 16, 0, none⟩) 1 1, .slice (some ⟨w.heap.size + 17, 0, none⟩) 1 1]) (ext_at rfl) rfl (fun i hi => by
    match i, hi with
    | 0, _ => exact ⟨_, rfl, ints_lit (l := [n]) rfl rfl⟩
    | 1, _ => exact ⟨_, rfl, ints_lit (l := [2]) rfl rfl⟩
    | 2, _ => exact ⟨_, rfl, ints_lit (l := [m2]) rfl rfl⟩
    | 3, _ => exact ⟨_, rfl, ints_lit (l := [m3]) rfl rfl⟩
    | 4, _ => exact ⟨_, rfl, ints_lit (l := [m4]) rfl rfl⟩
    | 5, _ => exact ⟨_, rfl, ints_lit (l := [n]) rfl rfl⟩
    | i + 6, hi => exact absurd hi (by simp))
  intro k hk
  obtain rfl | rfl | rfl | rfl | rfl : k = 0 ∨ k = 1 ∨ k = 2 ∨ k = 3 ∨ k = 4 := by omega
  · exact ⟨_, (cell_of_row _ _ 0 _ 63 (0, 0) hg).trans rfl, _, r0, by simp, by simp⟩
  · exact ⟨_, (cell_of_row _ _ 1 _ 63 (0, 0) hg).trans rfl, _, r1, by simp, by simp⟩
  · exact ⟨_, (cell_of_row _ _ 2 _ 63 (0, 0) hg).trans rfl, _, r2, by simp, by simp⟩
  · exact ⟨_, (cell_of_row _ _ 3 _ 63 (0, 0) hg).trans rfl, _, r3, by simp, by simp⟩
  · exact ⟨_, (cell_of_row _ _ 4 _ 63 (0, 0) hg).trans rfl, _, r4, by simp, by simp⟩
end Go.Proofs.YtobbphkfdhjmdaaDoor

namespace Go.Proofs.YtobbphkfdhjmdaaDoor
open Go.RowKit

theorem lt_of_cell {w : World} {g i : Nat} {v : Value} (h : w.cell? ⟨g, i, none⟩ = some v) : g < w.heap.size := by
  refine Decidable.byContradiction fun hn => ?_
  have e : w.heap[g]? = none := Array.getElem?_eq_none (by omega)
  simp [World.cell?, e] at h
set_option maxRecDepth 100000 in
set_option maxHeartbeats 20000000 in
theorem values_true (n m0 m1 m2 m3 m4 : Int) (hn0 : 0 ≤ n) (hn1 : n < 256) (w : World) (hg : GL w) (ht : GT w) : Calls Tryd.prog 6 #[.int .u8 n, .agg #[.int .i64 m0, .int .i64 m1, .int .i64 m2, .int .i64 m3, .int .i64 m4]] w (Ret (.bool true) w) := by
  have HGL := Lib.hid hg
  have HGT := Lib.hid ht
  clear hg ht
  go_enter Tryd.func6, Tryd.ntmps6
  go_upto_region 3 with fail
  simp only [alloc_first w, alloc_more, List.push_toArray, List.cons_append, List.nil_append]
  refine abs_worldM (fun W => Grows w W ∧ ∀ k, k < 5 → ∃ s, W.cell? ⟨w.heap.size + 19, k, none⟩ = some s ∧ SmallAt W s) ⟨(Grows.refl w).ext _ _, values_rows w w.drawn n m0 m1 m2 m3 m4⟩ ?_
  rintro W ⟨hGW, hR⟩
  have HW := Lib.hid hGW
  have HR := Lib.hid hR
  have hgs : w.heap.size + 19 < W.heap.size := by
    obtain ⟨s, hs, -⟩ := hR 0 (by omega)
    exact lt_of_cell hs
  clear hR hGW
  simp only [Nat.add_assoc, Nat.reduceAdd]
  go_wp2_with fail
  generalize w.heap.size + 19 = g at *
  go_loopw [7] (fun i wr' => ∃ (wv : World) (k : Nat), wv = wr' ∧ k ≤ 5 ∧ i = .int .i64 k ∧ Grows W wv) (fun i _ => 5 - (intOf i).toNat)
  case atStart => exact ⟨_, 0, rfl, by omega, rfl, Grows.refl _⟩
  case round =>
    obtain ⟨wa, k, rfl, hk, rfl, hG⟩ := hrel
    by_cases hlt : k < 5
    · have e1 : decide ((k : Int) < 5) = true := by rw [decide_eq_true_eq]; omega
      obtain ⟨s, hs, r, hr1, hr2, hr3⟩ := HR.out k hlt
      have c0 := (hG.cellOf hgs).trans hs
      obtain ⟨as_, cs, rfl⟩ := row_len hr1
      have xs := Nat.lt_of_lt_of_le hgs hG.size
      clear hs
      have hRa := hr1.grows hG
      have hpl : ∀ p ∈ r, p.length ≤ 100000 := fun p hp => by have := (And.intro hr2 hr3).2 p hp; omega
      have hr16 : r.length ≤ 20 := (And.intro hr2 hr3).1
      have hrl : r.length ≤ 100000 := by omega
      have HPe := Lib.hid (sgrPens_any _ r hrl hpl wa hRa (HGL.out.grows (HW.out.trans hG)))
      have HP22 := Lib.hid fun W (hW : Grows wa W) => pens22_any _ r hrl hpl W (hRa.grows hW)
      have hs := (pensOf_sound r).2
      have HS := Lib.hid fun x y W (hx : ActsAt W x ((pensOf r).map actP)) (hy : ActsAt W y ((pensOf r).map actP)) => same_all x y ((pensOf r).map actP) ((pensOf r).map actP) (by simp; omega) (by simp; omega) W hx hy
      rw [sameL_refl] at HS
      have HG := Lib.hid hG
      clear hs hpl hrl hG hRa
      generalize pensErr r = er at *
      generalize pensOf r = l at *
      go_wp2_with (first | (go_at_call 14; (with_reducible refine HPe.out.mono ?_); rintro e w2 ⟨x2, rfl, hx2, hg2⟩; obtain ⟨a2, c2, rfl⟩ := pens_len hx2; have c0b := (hg2.cellOf xs).trans c0; have xs2 := Nat.lt_of_lt_of_le xs hg2.size) | (go_at_call 22; (with_reducible refine (HP22.out w2 hg2).mono ?_); rintro e w3 ⟨x3, rfl, hx3, hg3⟩; obtain ⟨a3, c3, rfl⟩ := pens_len hx3) | (go_at_call 23; (with_reducible refine (HS.out _ _ w3 (hx2.grows hg3) hx3).mono ?_); rintro e w' ⟨rfl, h4, d4, rfl⟩))
      go_roundw
      case rel => exact ⟨_, k + 1, rfl, by omega, by go_num, (HG.out.trans hg2).trans (hg3.trans (by repeat' (first | (with_reducible exact Grows.refl _) | (with_reducible refine Grows.alloc ?_ _) | (with_reducible refine Grows.drew ?_) | (with_reducible refine Grows.ext ?_ _ _))))⟩
      case measure => simp [intOf]; try omega
    · have e1 : decide ((k : Int) < 5) = false := by rw [decide_eq_false_iff_not]; omega
      have HGn := Lib.hid (HW.out.trans hG)
      clear hG
      go_wp2_with (first | (go_at_call 15; (with_reducible refine (works_true _ (HGL.out.grows ?hg1) (HGT.out.grows ?hg2)).mono ?hm1); (case hg1 => exact HGn.out); (case hg2 => exact HGn.out); rintro e w' ⟨rfl, h1, d1, rfl⟩))
      go_ret
      exact ⟨rfl, HGn.out.trans (by repeat' (first | (with_reducible exact Grows.refl _) | (with_reducible refine Grows.alloc ?_ _) | (with_reducible refine Grows.drew ?_) | (with_reducible refine Grows.ext ?_ _ _)))⟩
end Go.Proofs.YtobbphkfdhjmdaaDoor

