/-
  Cells of a block that is known whole.
-/
import Derived.Test.YtepbknpdhiaepaaRows
import Derived.Test.YtepbknpdhiaepaaDefs
import Derived.WalkKit
import Derived.WalkSpells
import Derived.WalkLawsBesides
import Derived.Handy
import Derived.Lib.Hide
import Derived.Deep.Light
import Derived.Deep.LoopGhost
import Derived.BigGuardPart
import Derived.BigQuiet
import Derived.Deep.QuietTactic
import Derived.Deep.RegionHeld3
namespace Go.Proofs.Ytepbknpdhiaepaa
open Go.RowKit


theorem w64 {n : Int} (h : -9223372036854775808 ≤ n ∧ n ≤ 9223372036854775807) : wrap64 n = n := by unfold wrap64; omega
theorem fld_of {w : World} {n : Nat} {r c t b : Int} {o : Bool} (h : w.heap[n]? = some (.cells #[.int .i64 r, .int .i64 c, .int .i64 t, .int .i64 b, .bool o] 23 (0, 0))) : FldAt w n r c t b o := by
  refine ⟨(Array.getElem?_eq_some_iff.1 h).1, ?_, ?_, ?_, ?_, ?_⟩ <;> simp [World.cell?, h]
theorem Grows.cell {w w' : World} (g : Grows w w') (n i : Nat) (hn : n < w.heap.size) : w'.cell? ⟨n, i, none⟩ = w.cell? ⟨n, i, none⟩ ∧ n < w'.heap.size := by
  obtain ⟨h, d, rfl⟩ := g
  exact ⟨ext_cell _ _ _ _ _ hn, by rw [ext_size]; omega⟩
theorem cur_of {w : World} {n : Nat} {x y : Int} {wr : Bool} (h : w.heap[n]? = some (.cells #[.int .i64 x, .int .i64 y, .bool wr] 27 (0, 0))) : CurAt w n x y wr := by
  refine ⟨(Array.getElem?_eq_some_iff.1 h).1, ?_, ?_, ?_, ?_, ?_, ?_⟩ <;> simp [World.cell?, World.frozen?, h]
end Go.Proofs.Ytepbknpdhiaepaa
