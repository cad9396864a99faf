/-
  Blocks of a draft and of two numbers; a world laid open only by facts.
-/
import Derived.Test.YtepbknpdhiaepaaRows
import Derived.Test.YtepbknpdhiaepaaDefs
import Derived.Test.YtepbknpdhiaepaaCel
import Derived.WalkKit
import Derived.WalkSpells
import Derived.WalkLawsBesides
import Derived.Handy
import Derived.Lib.Hide
import Derived.Deep.Light
import Derived.Deep.LoopGhost
import Derived.BigGuardPart
import Derived.BigQuiet
import Derived.Deep.QuietTactic
import Derived.Deep.RegionHeld3
namespace Go.Proofs.Ytepbknpdhiaepaa
open Go.RowKit


theorem abs_world {P : Program} {c : Code} {Q : Exit → Act → World → Prop} {a : Act} {w : World} (F : World → Prop) (hF : F w) (h : ∀ W, F W → c.wp P Q a W) : c.wp P Q a w := h w hF
def DrAt (w : World) (B : Nat) (rows cols top long row col : Int) (o wr : Bool) : Prop := B < w.heap.size ∧ w.cell? ⟨B, 0, none⟩ = some (.int .u8 rows) ∧ w.cell? ⟨B, 1, none⟩ = some (.int .u8 cols) ∧ w.cell? ⟨B, 2, none⟩ = some (.int .u8 top) ∧ w.cell? ⟨B, 3, none⟩ = some (.int .u8 long) ∧ w.cell? ⟨B, 4, none⟩ = some (.int .u8 row) ∧ w.cell? ⟨B, 5, none⟩ = some (.int .u8 col) ∧ w.cell? ⟨B, 6, none⟩ = some (.bool o) ∧ w.cell? ⟨B, 7, none⟩ = some (.bool wr)
theorem DrAt.grows {w w' : World} {B : Nat} {rows cols top long row col : Int} {o wr : Bool} (h : DrAt w B rows cols top long row col o wr) (g : Grows w w') : DrAt w' B rows cols top long row col o wr := by
  obtain ⟨x, d, rfl⟩ := g
  obtain ⟨h0, h1, h2, h3, h4, h5, h6, h7, h8⟩ := h
  refine ⟨by rw [ext_size]; omega, ?_, ?_, ?_, ?_, ?_, ?_, ?_, ?_⟩ <;> (rw [ext_cell _ _ _ _ _ h0]; assumption)
def TwoAt (w : World) (B : Nat) (a b : Int) : Prop := B < w.heap.size ∧ w.cell? ⟨B, 0, none⟩ = some (.int .i64 a) ∧ w.cell? ⟨B, 1, none⟩ = some (.int .i64 b)
theorem TwoAt.grows {w w' : World} {B : Nat} {a b : Int} (h : TwoAt w B a b) (g : Grows w w') : TwoAt w' B a b := by
  obtain ⟨x, d, rfl⟩ := g
  obtain ⟨h0, h1, h2⟩ := h
  refine ⟨by rw [ext_size]; omega, ?_, ?_⟩ <;> (rw [ext_cell _ _ _ _ _ h0]; assumption)
end Go.Proofs.Ytepbknpdhiaepaa
