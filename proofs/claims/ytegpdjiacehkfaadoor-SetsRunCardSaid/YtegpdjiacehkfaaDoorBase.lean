/-
  What the seat's rows share: the table that they list, and the world of the witness.
-/
import Derived.Test.YtegpdjiacehkfaaDoorCards
import Derived.Test.YtegpdjiacehkfaaDoorTie
import Derived.Test.YtegpdjiacehkfaaDoorFrame
import Derived.Test.YtegpdjiacehkfaaDoorDefs
import Derived.Lib.LaidTab
namespace Go.Proofs.YtegpdjiacehkfaaDoor
open Go.ChangeShapes Go.WideShapes Go.ChangeAt Go.RowKit
theorem own : ownKnob Tryd.prog.godebug = none := by kernel_rfl
theorem laidOut : laidOutB Tryd.prog = true := by kernel_rfl
theorem gTab : Tryd.prog.globalNamed "fenestra/sets.signs" = some 0 := by kernel_rfl
theorem gTabType : (Tryd.prog.globals[0]?).map (·.type) = some 52 := by kernel_rfl
theorem cells52 : Tryd.prog.cellsOf 52 = 32 := by kernel_rfl
theorem cells3 : Tryd.prog.cellsOf 3 = 1 := by kernel_rfl
theorem sg_of_laid {W : World} (h : laidMetH Tryd.prog [("fenestra/sets.signs", Rows.laid_fenestra_sets_signs)] W) : SG W := by
  have h1 : Lib.TabIs Tryd.prog W "fenestra/sets.signs" .i64 signsL := Lib.tabIs_of_head (rest := []) gTab gTabType Tryd.underlying52 Tryd.underlying3 cells3 cells52 h
  have h2 : W.var? Tryd.prog "fenestra/sets.signs" = some signsA := h1
  simp only [World.var?, gTab, Option.bind_some] at h2
  split at h2
  · rename_i cs t fr hh
    cases h2
    exact ⟨t, fr, hh⟩
  · cases h2
noncomputable def laidWorld (os : Os) : World :=
  { World.holding Tryd.prog os ⟨#[], #[], []⟩ with heap := (World.holding Tryd.prog os ⟨#[], #[], []⟩).heap.modify 0 fun
      | .cells _ t frozen => .cells signsA t frozen
      | o => o }
end Go.Proofs.YtegpdjiacehkfaaDoor
