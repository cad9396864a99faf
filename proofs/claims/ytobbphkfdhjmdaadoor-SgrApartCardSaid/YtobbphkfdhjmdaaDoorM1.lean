/-
  Worlds that have only grown: what a callee leaves behind it, as one word that the walk's own rules see through. No program in sight. Sums of sizes, held below one another: the side conditions of the walk's rules on worlds. No program in sight. Plain definitions and laws for the seat of layer 9 (sgr): pens of rows of parameters, rows of pens, texts of rows. No program in sight. How slices read in a world: of integers, of parameters (slices of slices), kept by every growth. No program in sight. A map of the call's own that is filled in any way: what it says of each key, as a function; its operations as laws of the walk. No program in sight. A range over a function whose iterator writes a variable that it has captured itself: the law for the caller. Its condition: the caller's invariant abides growth and a store into that one cell. No program in sight. How slices of actions read in a world, kept by every growth. No program in sight. A row of parameters of the call's own: cells that hold slices of integers, each in a block apart from the row's. No program in sight. Plain definitions for the seat of layer 4 (style), no program in sight. Go's bit operations on int, by the numbers' bits. No program in sight. Maps with integer keys whose entries are written out: insert and lookup as words that the walk's own rules see through. No program in sight. A region that draws its order, whose operations read and whose calls leave the world grown: one walk in the order of the text; a tail in f
-/
import Derived.WalkKit
import Derived.Lib.ItoaNum
import Derived.MapKept
import Derived.Maps.Own
import Derived.RangeFuncBox
import Derived.RangeFuncBound
import Derived.RangeFuncCalls
import Derived.RangeFuncLeaves
import Derived.OwnWalk
import Derived.Maps.AppendAt
import Derived.WideMake
import Derived.StillTail
import Derived.Deep.QuietTactic
import Derived.BigQuiet
import Derived.ProofKit
import Derived.OpenShut
import Derived.Carry
import Derived.Deep.DeepHandedRow
import Derived.Test.YtobbphkfdhjmdaaDoorRows
import Derived.WalkSpells
import Derived.WalkLawsBesides
import Derived.Handy
import Derived.Laws.Rows
import Derived.Great.BuildSlice
import Derived.Deep.Heap
import Derived.IntWalk
import Derived.Lib.Hide
import Derived.Outline
import Derived.Deep.Light
import Derived.Deep.LoopGhost
import Derived.BigGuardPart
import Derived.Deep.RegionHeld3
import Derived.Deep.DeepCutAuto
namespace Go.Proofs.YtobbphkfdhjmdaaDoor
open Go.RowKit

/-- The world w with more blocks behind its own, and with another count of draws. -/
def ext (w : World) (h : Array Obj) (d : Nat) : World := { w with heap := w.heap ++ h, drawn := d }
section
variable (w : World) (h : Array Obj) (d : Nat)
@[simp, go_sem] theorem ext_size : (ext w h d).heap.size = w.heap.size + h.size := by simp [ext]
@[simp, go_sem] theorem ext_tape : (ext w h d).tape = w.tape := rfl
@[simp, go_sem] theorem ext_os : (ext w h d).os = w.os := rfl
@[simp, go_sem] theorem ext_output : (ext w h d).output = w.output := rfl
theorem ext_heap (k : Nat) (hk : k < w.heap.size) : (ext w h d).heap[k]? = w.heap[k]? := by
  show (w.heap ++ h)[k]? = _
  rw [Array.getElem?_append_left hk]
@[go_sem] theorem ext_cell (n i : Nat) (hn : n < w.heap.size) : (ext w h d).cell? ⟨n, i, none⟩ = w.cell? ⟨n, i, none⟩ :=
  World.cell?_of_block (w := w) (ext_heap w h d n hn)
@[go_sem] theorem ext_frozen (n i : Nat) (hn : n < w.heap.size) : (ext w h d).frozen? ⟨n, i, none⟩ = w.frozen? ⟨n, i, none⟩ :=
  World.frozen?_of_block (w := w) (ext_heap w h d n hn)
@[go_sem] theorem ext_setCell (n i : Nat) (v : Value) (hn : n < w.heap.size) : (ext w h d).setCell ⟨n, i, none⟩ v = ext (w.setCell ⟨n, i, none⟩ v) h d := by
  simp only [ext, World.setCell]
  congr 1
  apply Array.ext_getElem?
  intro k
  simp only [Array.getElem?_modify, Array.getElem?_append, Array.size_modify]
  by_cases hk : k < w.heap.size
  · simp [hk]
  · have : n ≠ k := by omega
    simp [hk, this]
@[go_sem] theorem ext_ext (h' : Array Obj) (d' : Nat) : ext (ext w h d) h' d' = ext w (h ++ h') d' := by
  simp [ext, Array.append_assoc]
@[go_sem] theorem ext_drew_in : ext w.drew h d = ext w h d := rfl
@[go_sem] theorem lt_add_deep (a b c : Nat) (hab : a < b) : a < b + c := Nat.lt_add_right c hab
end
/-- w' is w grown: nothing that was there has turned. -/
def Grows (w w' : World) : Prop := ∃ h d, w' = ext w h d
theorem Grows.refl (w : World) : Grows w w := ⟨#[], w.drawn, by simp [ext]⟩
theorem Grows.alloc {w w' : World} (g : Grows w w') (o : Obj) : Grows w (w'.alloc o) := by
  obtain ⟨h, d, rfl⟩ := g
  exact ⟨h.push o, d, by simp [ext, World.alloc]⟩
theorem Grows.drew {w w' : World} (g : Grows w w') : Grows w w'.drew := by
  obtain ⟨h, d, rfl⟩ := g
  exact ⟨h, d + 1, rfl⟩
theorem Grows.ext {w w' : World} (g : Grows w w') (h : Array Obj) (d : Nat) : Grows w (ext w' h d) := by
  obtain ⟨h', d', rfl⟩ := g
  exact ⟨h' ++ h, d, ext_ext _ _ _ _ _⟩
theorem Grows.trans {w w' w'' : World} (g : Grows w w') (g' : Grows w' w'') : Grows w w'' := by
  obtain ⟨h, d, rfl⟩ := g'
  exact g.ext h d
theorem Grows.setCell {w w' : World} (g : Grows w w') {n i : Nat} (hn : w.heap.size ≤ n) (v : Value) : Grows w (w'.setCell ⟨n, i, none⟩ v) := by
  obtain ⟨h, d, rfl⟩ := g
  refine ⟨h.modify (n - w.heap.size) fun o => match o with | .cells c e f => .cells (c.setIfInBounds i v) e f | o => o, d, ?_⟩
  simp only [Proofs.YtobbphkfdhjmdaaDoor.ext, World.setCell]
  congr 1
  apply Array.ext_getElem?
  intro k
  simp only [Array.getElem?_modify, Array.getElem?_append]
  by_cases hk : k < w.heap.size
  · have : n ≠ k := by omega
    simp [hk, this]
  · by_cases hnk : n = k
    · subst hnk
      simp only [hk, if_true, if_false]
      exact congrArg (fun f => Option.map f _) (funext fun o => by cases o <;> rfl)
    · have : ¬ (n - w.heap.size = k - w.heap.size) := by omega
      simp [hk, hnk, this]
theorem Grows.below {w w' : World} (g : Grows w w') : Below w.heap.size w w' := by
  obtain ⟨h, d, rfl⟩ := g
  exact ⟨rfl, rfl, rfl, by simp, fun k hk => ext_heap w h d k hk⟩
theorem Grows.of_below {w w' : World} (b : Below w.heap.size w w') : Grows w w' := by
  refine ⟨w'.heap.extract w.heap.size w'.heap.size, w'.drawn, ?_⟩
  have hh : w'.heap = w.heap ++ w'.heap.extract w.heap.size w'.heap.size := by
    apply Array.ext_getElem?
    intro k
    rw [Array.getElem?_append]
    split
    · exact b.block k ‹_›
    · rw [Array.getElem?_extract]
      have := b.size
      split
      · congr 1
        omega
      · rw [Array.getElem?_eq_none]
        omega
  have h1 := b.os; have h2 := b.tape; have h3 := b.output
  show w' = ⟨w.heap ++ w'.heap.extract w.heap.size w'.heap.size, w.tape, w'.drawn, w.os, w.output⟩
  rw [← hh, ← h1, ← h2, ← h3]
/-- A call that returns v and leaves the world grown. -/
def Ret (v : Value) (w : World) (e : Ending) (w' : World) : Prop := e = .returned v ∧ Grows w w'
theorem Ret.trans {v : Value} {w w1 w2 : World} {e : Ending} (g : Grows w w1) (h : Ret v w1 e w2) : Ret v w e w2 := ⟨h.1, g.trans h.2⟩
theorem ret_bool {a b : Bool} (h : a = b) : Ending.returned (.bool a) = .returned (.bool b) := by rw [h]
theorem ret_int {k : IntKind} {a b : Int} (h : a = b) : Ending.returned (.int k a) = .returned (.int k b) := by rw [h]
end Go.Proofs.YtobbphkfdhjmdaaDoor

namespace Go.Proofs.YtobbphkfdhjmdaaDoor
@[go_sem] theorem lt_self1 (a c0 : Nat) : a < a + 1 + c0 := by omega
@[go_sem] theorem lt_up1 (a b c0 : Nat) (h : a < b) : a < b + c0 := by omega
@[go_sem] theorem lt_self2 (a c0 c1 : Nat) : a < a + 1 + c0 + c1 := by omega
@[go_sem] theorem lt_up2 (a b c0 c1 : Nat) (h : a < b) : a < b + c0 + c1 := by omega
@[go_sem] theorem lt_self3 (a c0 c1 c2 : Nat) : a < a + 1 + c0 + c1 + c2 := by omega
@[go_sem] theorem lt_up3 (a b c0 c1 c2 : Nat) (h : a < b) : a < b + c0 + c1 + c2 := by omega
@[go_sem] theorem lt_self4 (a c0 c1 c2 c3 : Nat) : a < a + 1 + c0 + c1 + c2 + c3 := by omega
@[go_sem] theorem lt_up4 (a b c0 c1 c2 c3 : Nat) (h : a < b) : a < b + c0 + c1 + c2 + c3 := by omega
@[go_sem] theorem lt_self5 (a c0 c1 c2 c3 c4 : Nat) : a < a + 1 + c0 + c1 + c2 + c3 + c4 := by omega
@[go_sem] theorem lt_up5 (a b c0 c1 c2 c3 c4 : Nat) (h : a < b) : a < b + c0 + c1 + c2 + c3 + c4 := by omega
@[go_sem] theorem lt_self6 (a c0 c1 c2 c3 c4 c5 : Nat) : a < a + 1 + c0 + c1 + c2 + c3 + c4 + c5 := by omega
@[go_sem] theorem lt_up6 (a b c0 c1 c2 c3 c4 c5 : Nat) (h : a < b) : a < b + c0 + c1 + c2 + c3 + c4 + c5 := by omega
@[go_sem] theorem lt_self7 (a c0 c1 c2 c3 c4 c5 c6 : Nat) : a < a + 1 + c0 + c1 + c2 + c3 + c4 + c5 + c6 := by omega
@[go_sem] theorem lt_up7 (a b c0 c1 c2 c3 c4 c5 c6 : Nat) (h : a < b) : a < b + c0 + c1 + c2 + c3 + c4 + c5 + c6 := by omega
@[go_sem] theorem lt_self8 (a c0 c1 c2 c3 c4 c5 c6 c7 : Nat) : a < a + 1 + c0 + c1 + c2 + c3 + c4 + c5 + c6 + c7 := by omega
@[go_sem] theorem lt_up8 (a b c0 c1 c2 c3 c4 c5 c6 c7 : Nat) (h : a < b) : a < b + c0 + c1 + c2 + c3 + c4 + c5 + c6 + c7 := by omega
@[go_sem] theorem lt_self9 (a c0 c1 c2 c3 c4 c5 c6 c7 c8 : Nat) : a < a + 1 + c0 + c1 + c2 + c3 + c4 + c5 + c6 + c7 + c8 := by omega
@[go_sem] theorem lt_up9 (a b c0 c1 c2 c3 c4 c5 c6 c7 c8 : Nat) (h : a < b) : a < b + c0 + c1 + c2 + c3 + c4 + c5 + c6 + c7 + c8 := by omega
@[go_sem] theorem lt_self10 (a c0 c1 c2 c3 c4 c5 c6 c7 c8 c9 : Nat) : a < a + 1 + c0 + c1 + c2 + c3 + c4 + c5 + c6 + c7 + c8 + c9 := by omega
@[go_sem] theorem lt_up10 (a b c0 c1 c2 c3 c4 c5 c6 c7 c8 c9 : Nat) (h : a < b) : a < b + c0 + c1 + c2 + c3 + c4 + c5 + c6 + c7 + c8 + c9 := by omega
@[go_sem] theorem lt_self11 (a c0 c1 c2 c3 c4 c5 c6 c7 c8 c9 c10 : Nat) : a < a + 1 + c0 + c1 + c2 + c3 + c4 + c5 + c6 + c7 + c8 + c9 + c10 := by omega
@[go_sem] theorem lt_up11 (a b c0 c1 c2 c3 c4 c5 c6 c7 c8 c9 c10 : Nat) (h : a < b) : a < b + c0 + c1 + c2 + c3 + c4 + c5 + c6 + c7 + c8 + c9 + c10 := by omega
@[go_sem] theorem lt_self12 (a c0 c1 c2 c3 c4 c5 c6 c7 c8 c9 c10 c11 : Nat) : a < a + 1 + c0 + c1 + c2 + c3 + c4 + c5 + c6 + c7 + c8 + c9 + c10 + c11 := by omega
@[go_sem] theorem lt_up12 (a b c0 c1 c2 c3 c4 c5 c6 c7 c8 c9 c10 c11 : Nat) (h : a < b) : a < b + c0 + c1 + c2 + c3 + c4 + c5 + c6 + c7 + c8 + c9 + c10 + c11 := by omega
@[go_sem] theorem lt_self13 (a c0 c1 c2 c3 c4 c5 c6 c7 c8 c9 c10 c11 c12 : Nat) : a < a + 1 + c0 + c1 + c2 + c3 + c4 + c5 + c6 + c7 + c8 + c9 + c10 + c11 + c12 := by omega
@[go_sem] theorem lt_up13 (a b c0 c1 c2 c3 c4 c5 c6 c7 c8 c9 c10 c11 c12 : Nat) (h : a < b) : a < b + c0 + c1 + c2 + c3 + c4 + c5 + c6 + c7 + c8 + c9 + c10 + c11 + c12 := by omega
@[go_sem] theorem lt_self14 (a c0 c1 c2 c3 c4 c5 c6 c7 c8 c9 c10 c11 c12 c13 : Nat) : a < a + 1 + c0 + c1 + c2 + c3 + c4 + c5 + c6 + c7 + c8 + c9 + c10 + c11 + c12 + c13 := by omega
@[go_sem] theorem lt_up14 (a b c0 c1 c2 c3 c4 c5 c6 c7 c8 c9 c10 c11 c12 c13 : Nat) (h : a < b) : a < b + c0 + c1 + c2 + c3 + c4 + c5 + c6 + c7 + c8 + c9 + c10 + c11 + c12 + c13 := by omega
@[go_sem] theorem lt_self15 (a c0 c1 c2 c3 c4 c5 c6 c7 c8 c9 c10 c11 c12 c13 c14 : Nat) : a < a + 1 + c0 + c1 + c2 + c3 + c4 + c5 + c6 + c7 + c8 + c9 + c10 + c11 + c12 + c13 + c14 := by omega
@[go_sem] theorem lt_up15 (a b c0 c1 c2 c3 c4 c5 c6 c7 c8 c9 c10 c11 c12 c13 c14 : Nat) (h : a < b) : a < b + c0 + c1 + c2 + c3 + c4 + c5 + c6 + c7 + c8 + c9 + c10 + c11 + c12 + c13 + c14 := by omega
@[go_sem] theorem lt_self16 (a c0 c1 c2 c3 c4 c5 c6 c7 c8 c9 c10 c11 c12 c13 c14 c15 : Nat) : a < a + 1 + c0 + c1 + c2 + c3 + c4 + c5 + c6 + c7 + c8 + c9 + c10 + c11 + c12 + c13 + c14 + c15 := by omega
@[go_sem] theorem lt_up16 (a b c0 c1 c2 c3 c4 c5 c6 c7 c8 c9 c10 c11 c12 c13 c14 c15 : Nat) (h : a < b) : a < b + c0 + c1 + c2 + c3 + c4 + c5 + c6 + c7 + c8 + c9 + c10 + c11 + c12 + c13 + c14 + c15 := by omega
@[go_sem] theorem lt_self17 (a c0 c1 c2 c3 c4 c5 c6 c7 c8 c9 c10 c11 c12 c13 c14 c15 c16 : Nat) : a < a + 1 + c0 + c1 + c2 + c3 + c4 + c5 + c6 + c7 + c8 + c9 + c10 + c11 + c12 + c13 + c14 + c15 + c16 := by omega
@[go_sem] theorem lt_up17 (a b c0 c1 c2 c3 c4 c5 c6 c7 c8 c9 c10 c11 c12 c13 c14 c15 c16 : Nat) (h : a < b) : a < b + c0 + c1 + c2 + c3 + c4 + c5 + c6 + c7 + c8 + c9 + c10 + c11 + c12 + c13 + c14 + c15 + c16 := by omega
@[go_sem] theorem lt_self18 (a c0 c1 c2 c3 c4 c5 c6 c7 c8 c9 c10 c11 c12 c13 c14 c15 c16 c17 : Nat) : a < a + 1 + c0 + c1 + c2 + c3 + c4 + c5 + c6 + c7 + c8 + c9 + c10 + c11 + c12 + c13 + c14 + c15 + c16 + c17 := by omega
@[go_sem] theorem lt_up18 (a b c0 c1 c2 c3 c4 c5 c6 c7 c8 c9 c10 c11 c12 c13 c14 c15 c16 c17 : Nat) (h : a < b) : a < b + c0 + c1 + c2 + c3 + c4 + c5 + c6 + c7 + c8 + c9 + c10 + c11 + c12 + c13 + c14 + c15 + c16 + c17 := by omega
@[go_sem] theorem lt_self19 (a c0 c1 c2 c3 c4 c5 c6 c7 c8 c9 c10 c11 c12 c13 c14 c15 c16 c17 c18 : Nat) : a < a + 1 + c0 + c1 + c2 + c3 + c4 + c5 + c6 + c7 + c8 + c9 + c10 + c11 + c12 + c13 + c14 + c15 + c16 + c17 + c18 := by omega
@[go_sem] theorem lt_up19 (a b c0 c1 c2 c3 c4 c5 c6 c7 c8 c9 c10 c11 c12 c13 c14 c15 c16 c17 c18 : Nat) (h : a < b) : a < b + c0 + c1 + c2 + c3 + c4 + c5 + c6 + c7 + c8 + c9 + c10 + c11 + c12 + c13 + c14 + c15 + c16 + c17 + c18 := by omega
@[go_sem] theorem lt_self20 (a c0 c1 c2 c3 c4 c5 c6 c7 c8 c9 c10 c11 c12 c13 c14 c15 c16 c17 c18 c19 : Nat) : a < a + 1 + c0 + c1 + c2 + c3 + c4 + c5 + c6 + c7 + c8 + c9 + c10 + c11 + c12 + c13 + c14 + c15 + c16 + c17 + c18 + c19 := by omega
@[go_sem] theorem lt_up20 (a b c0 c1 c2 c3 c4 c5 c6 c7 c8 c9 c10 c11 c12 c13 c14 c15 c16 c17 c18 c19 : Nat) (h : a < b) : a < b + c0 + c1 + c2 + c3 + c4 + c5 + c6 + c7 + c8 + c9 + c10 + c11 + c12 + c13 + c14 + c15 + c16 + c17 + c18 + c19 := by omega
@[go_sem] theorem lt_self21 (a c0 c1 c2 c3 c4 c5 c6 c7 c8 c9 c10 c11 c12 c13 c14 c15 c16 c17 c18 c19 c20 : Nat) : a < a + 1 + c0 + c1 + c2 + c3 + c4 + c5 + c6 + c7 + c8 + c9 + c10 + c11 + c12 + c13 + c14 + c15 + c16 + c17 + c18 + c19 + c20 := by omega
@[go_sem] theorem lt_up21 (a b c0 c1 c2 c3 c4 c5 c6 c7 c8 c9 c10 c11 c12 c13 c14 c15 c16 c17 c18 c19 c20 : Nat) (h : a < b) : a < b + c0 + c1 + c2 + c3 + c4 + c5 + c6 + c7 + c8 + c9 + c10 + c11 + c12 + c13 + c14 + c15 + c16 + c17 + c18 + c19 + c20 := by omega
@[go_sem] theorem lt_self22 (a c0 c1 c2 c3 c4 c5 c6 c7 c8 c9 c10 c11 c12 c13 c14 c15 c16 c17 c18 c19 c20 c21 : Nat) : a < a + 1 + c0 + c1 + c2 + c3 + c4 + c5 + c6 + c7 + c8 + c9 + c10 + c11 + c12 + c13 + c14 + c15 + c16 + c17 + c18 + c19 + c20 + c21 := by omega
@[go_sem] theorem lt_up22 (a b c0 c1 c2 c3 c4 c5 c6 c7 c8 c9 c10 c11 c12 c13 c14 c15 c16 c17 c18 c19 c20 c21 : Nat) (h : a < b) : a < b + c0 + c1 + c2 + c3 + c4 + c5 + c6 + c7 + c8 + c9 + c10 + c11 + c12 + c13 + c14 + c15 + c16 + c17 + c18 + c19 + c20 + c21 := by omega
@[go_sem] theorem lt_self23 (a c0 c1 c2 c3 c4 c5 c6 c7 c8 c9 c10 c11 c12 c13 c14 c15 c16 c17 c18 c19 c20 c21 c22 : Nat) : a < a + 1 + c0 + c1 + c2 + c3 + c4 + c5 + c6 + c7 + c8 + c9 + c10 + c11 + c12 + c13 + c14 + c15 + c16 + c17 + c18 + c19 + c20 + c21 + c22 := by omega
@[go_sem] theorem lt_up23 (a b c0 c1 c2 c3 c4 c5 c6 c7 c8 c9 c10 c11 c12 c13 c14 c15 c16 c17 c18 c19 c20 c21 c22 : Nat) (h : a < b) : a < b + c0 + c1 + c2 + c3 + c4 + c5 + c6 + c7 + c8 + c9 + c10 + c11 + c12 + c13 + c14 + c15 + c16 + c17 + c18 + c19 + c20 + c21 + c22 := by omega
@[go_sem] theorem lt_self24 (a c0 c1 c2 c3 c4 c5 c6 c7 c8 c9 c10 c11 c12 c13 c14 c15 c16 c17 c18 c19 c20 c21 c22 c23 : Nat) : a < a + 1 + c0 + c1 + c2 + c3 + c4 + c5 + c6 + c7 + c8 + c9 + c10 + c11 + c12 + c13 + c14 + c15 + c16 + c17 + c18 + c19 + c20 + c21 + c22 + c23 := by omega
@[go_sem] theorem lt_up24 (a b c0 c1 c2 c3 c4 c5 c6 c7 c8 c9 c10 c11 c12 c13 c14 c15 c16 c17 c18 c19 c20 c21 c22 c23 : Nat) (h : a < b) : a < b + c0 + c1 + c2 + c3 + c4 + c5 + c6 + c7 + c8 + c9 + c10 + c11 + c12 + c13 + c14 + c15 + c16 + c17 + c18 + c19 + c20 + c21 + c22 + c23 := by omega
end Go.Proofs.YtobbphkfdhjmdaaDoor

namespace Go.Proofs.YtobbphkfdhjmdaaDoor

/-- A pen: its N and M, and its colour's Kind and N. -/
structure Pen where
  n : Int
  m : Int
  ck : Int
  cn : Int
deriving DecidableEq
def pen (n m : Int) : Pen := ⟨n, m, 0, 0⟩
def colored (n k c : Int) : Pen := ⟨n, 0, k, c⟩
def noPen : Pen := ⟨0, 0, 0, 0⟩

/-- What a row of parameters may be. -/
def okPart (p : List Int) : Bool := !p.isEmpty && (decide (p.length ≤ 6) && p.all fun n => decide (-1 ≤ n) && decide (n ≤ 9999))
def okRow (r : List (List Int)) : Bool := decide (r.length ≤ 16) && (!(r == [[-1]]) && r.all okPart)

/-- What a colour is of, by its value. -/
def ofV (v : Int) : Option Int := if v = 38 then some 4 else if v = 48 then some 5 else if v = 58 then some 6 else none
def withinL (l : List Int) : Bool := l.all fun n => decide (0 ≤ n) && decide (n ≤ 255)
def shade (n how : Int) (l : List Int) : Pen × Bool :=
  if withinL l then
    match l with
    | [a] => if how = 5 then (colored n 1 a, true) else (noPen, false)
    | [a, b, c] => if how = 2 then (colored n 2 (a * 65536 + b * 256 + c), true) else (noPen, false)
    | _ => (noPen, false)
  else (noPen, false)
def attrsL : List (Int × Int × Int) := [(1, 1, 22), (2, 2, 22), (4, 3, 23), (8, 5, 25), (16, 7, 27), (32, 8, 28), (64, 9, 29), (128, 53, 55)]
/-- What values say alone. -/
def simpleV (v : Int) : Option Pen :=
  if v = 0 then some (pen 0 0) else if v = 1 then some (pen 1 1) else if v = 2 then some (pen 1 2) else if v = 3 then some (pen 1 4) else if v = 4 then some (pen 3 1)
  else if v = 5 ∨ v = 6 then some (pen 1 8) else if v = 7 then some (pen 1 16) else if v = 8 then some (pen 1 32) else if v = 9 then some (pen 1 64)
  else if v = 21 then some (pen 3 2) else if v = 22 then some (pen 2 3) else if v = 23 then some (pen 2 4) else if v = 24 then some (pen 3 0) else if v = 25 then some (pen 2 8)
  else if v = 27 then some (pen 2 16) else if v = 28 then some (pen 2 32) else if v = 29 then some (pen 2 64)
  else if 30 ≤ v ∧ v ≤ 37 then some (colored 4 1 (v - 30)) else if v = 39 then some (pen 4 0)
  else if 40 ≤ v ∧ v ≤ 47 then some (colored 5 1 (v - 40)) else if v = 49 then some (pen 5 0)
  else if v = 53 then some (pen 1 128) else if v = 55 then some (pen 2 128) else if v = 59 then some (pen 6 0)
  else if 90 ≤ v ∧ v ≤ 97 then some (colored 4 1 (v - 82)) else if 100 ≤ v ∧ v ≤ 107 then some (colored 5 1 (v - 92)) else none
def simpleP (v : Int) : Pen × Bool := match simpleV v with | some p => (p, true) | none => (noPen, false)
/-- What a parameter with several parts says. -/
def partsP (s : List Int) : Pen × Bool :=
  let v := max 0 (s.getD 0 0)
  if v = 4 ∧ s.length = 2 then (pen 3 (s.getD 1 0), decide (0 ≤ s.getD 1 0) && decide (s.getD 1 0 ≤ 5))
  else match ofV v with
    | none => (noPen, false)
    | some n => if s.length = 6 ∧ s.getD 1 0 = 2 then shade n 2 (s.drop 3) else if 2 < s.length then shade n (s.getD 1 0) (s.drop 2) else (noPen, false)
/-- The values of the parameters in front that have one part. -/
def valuesL : List (List Int) → List Int
  | [x] :: r => max 0 x :: valuesL r
  | _ => []
/-- What a row begins with, and how many parameters that takes. -/
def frontP (l : List (List Int)) : (Pen × Bool) × Nat :=
  let v := valuesL l
  if v.length = 0 then (partsP (l.getD 0 []), 1)
  else match ofV (v.getD 0 0) with
    | some w => if 1 < v.length ∧ (v.getD 1 0 = 5 ∨ v.getD 1 0 = 2) then
        let n := if v.getD 1 0 = 2 then 5 else 3
        (if n ≤ v.length then shade w (v.getD 1 0) ((v.take n).drop 2) else (noPen, false), min n l.length)
      else (simpleP (v.getD 0 0), 1)
    | none => (simpleP (v.getD 0 0), 1)
theorem frontP_pos (x : List Int) (l : List (List Int)) : 0 < (frontP (x :: l)).2 := by
  unfold frontP
  dsimp only
  split
  · simp
  · split
    · split
      · simp only [List.length_cons]
        split <;> omega
      · simp
    · simp
/-- The pens of a row that is not empty. -/
def pensL : List (List Int) → List Pen
  | [] => []
  | x :: l => (if (frontP (x :: l)).1.2 then [(frontP (x :: l)).1.1] else []) ++ pensL ((x :: l).drop (frontP (x :: l)).2)
termination_by l => l.length
decreasing_by
  have := frontP_pos x l
  simp only [List.length_drop, List.length_cons]
  omega
def pensOf (l : List (List Int)) : List Pen := if okRow l then (if l.isEmpty then [pen 0 0] else pensL l) else []
def pensErr (l : List (List Int)) : Int := if okRow l then 0 else 150

/-- A valid pen. -/
def okCol (k n : Int) : Bool := (k == 0 && n == 0) || ((k == 1 && (decide (0 ≤ n) && decide (n ≤ 255))) || (k == 2 && (decide (0 ≤ n) && decide (n ≤ 16777215))))
def okAttr (m : Int) : Bool := m == 1 || (m == 2 || (m == 4 || (m == 8 || (m == 16 || (m == 32 || (m == 64 || m == 128))))))
def okPen (p : Pen) : Bool :=
  if p.n = 0 then p.m == 0 && (p.ck == 0 && p.cn == 0)
  else if p.n = 1 then okAttr p.m && (p.ck == 0 && p.cn == 0)
  else if p.n = 2 then (p.m == 3 || (okAttr p.m && !(p.m == 1 || p.m == 2))) && (p.ck == 0 && p.cn == 0)
  else if p.n = 3 then (decide (0 ≤ p.m) && decide (p.m ≤ 5)) && (p.ck == 0 && p.cn == 0)
  else (decide (4 ≤ p.n) && decide (p.n ≤ 6)) && (p.m == 0 && okCol p.ck p.cn)
/-- The parameter of a pen. -/
def setOf (m : Int) : Int := if m = 1 then 1 else if m = 2 then 2 else if m = 4 then 3 else if m = 8 then 5 else if m = 16 then 7 else if m = 32 then 8 else if m = 64 then 9 else 53
def clrOf (m : Int) : Int := if m = 3 then 22 else if m = 4 then 23 else if m = 8 then 25 else if m = 16 then 27 else if m = 32 then 28 else if m = 64 then 29 else 55
def toldP (p : Pen) : List Int :=
  if p.n = 0 then [0] else if p.n = 1 then [setOf p.m] else if p.n = 2 then [clrOf p.m]
  else if p.n = 3 then (if p.m = 0 then [24] else if p.m = 1 then [4] else [4, p.m])
  else
    let f := 38 + 10 * (p.n - 4)
    if p.ck = 0 then [f + 1] else if p.ck = 2 then [f, 2, -1, p.cn / 65536, p.cn / 256 % 256, p.cn % 256]
    else if p.cn < 8 ∧ p.n ≠ 6 then [f - 8 + p.cn] else if p.cn < 16 ∧ p.n ≠ 6 then [f + 44 + p.cn] else [f, 5, p.cn]
theorem okAttr_cases {m : Int} (h : okAttr m = true) : m = 1 ∨ m = 2 ∨ m = 4 ∨ m = 8 ∨ m = 16 ∨ m = 32 ∨ m = 64 ∨ m = 128 := by
  simpa [okAttr] using h
theorem okPen_cases {p : Pen} (h : okPen p = true) :
    (p = pen 0 0) ∨ (∃ m, okAttr m = true ∧ p = pen 1 m) ∨ (∃ m, (m = 3 ∨ m = 4 ∨ m = 8 ∨ m = 16 ∨ m = 32 ∨ m = 64 ∨ m = 128) ∧ p = pen 2 m) ∨ (∃ m, 0 ≤ m ∧ m ≤ 5 ∧ p = pen 3 m) ∨
    (∃ n, (n = 4 ∨ n = 5 ∨ n = 6) ∧ (p = pen n 0 ∨ (∃ c, 0 ≤ c ∧ c ≤ 255 ∧ p = colored n 1 c) ∨ (∃ c, 0 ≤ c ∧ c ≤ 16777215 ∧ p = colored n 2 c))) := by
  obtain ⟨n, m, ck, cn⟩ := p
  unfold okPen at h
  dsimp only at h
  split at h
  · rename_i h0
    simp at h
    obtain ⟨h1, h2, h3⟩ := h
    exact Or.inl (by simp [pen, h0, h1, h2, h3])
  split at h
  · rename_i h0
    simp at h
    obtain ⟨h1, h2, h3⟩ := h
    exact Or.inr (Or.inl ⟨m, h1, by simp [pen, h0, h2, h3]⟩)
  split at h
  · rename_i h0
    simp only [Bool.and_eq_true, Bool.or_eq_true, beq_iff_eq, Bool.not_eq_true', Bool.or_eq_false_iff, beq_eq_false_iff_ne] at h
    obtain ⟨h1, h2, h3⟩ := h
    refine Or.inr (Or.inr (Or.inl ⟨m, ?_, by simp [pen, h0, h2, h3]⟩))
    rcases h1 with h1 | ⟨h1, h4, h5⟩
    · omega
    · have := okAttr_cases h1
      omega
  split at h
  · rename_i h0
    simp at h
    obtain ⟨⟨h1, h1'⟩, h2, h3⟩ := h
    exact Or.inr (Or.inr (Or.inr (Or.inl ⟨m, h1, h1', by simp [pen, h0, h2, h3]⟩)))
  · simp [okCol] at h
    obtain ⟨⟨h1, h2⟩, h3, h4⟩ := h
    refine Or.inr (Or.inr (Or.inr (Or.inr ⟨n, by omega, ?_⟩)))
    rcases h4 with ⟨h4, h5⟩ | ⟨h4, h5, h6⟩ | ⟨h4, h5, h6⟩
    · exact Or.inl (by simp [pen, h3, h4, h5])
    · exact Or.inr (Or.inl ⟨cn, h5, h6, by simp [colored, h3, h4]⟩)
    · exact Or.inr (Or.inr ⟨cn, h5, h6, by simp [colored, h3, h4]⟩)
theorem front_one {v : Int} (h0 : 0 ≤ v) (h : ofV v = none) (r : List (List Int)) : frontP ([v] :: r) = (simpleP v, 1) := by
  have e : max 0 v = v := by omega
  simp [frontP, valuesL, e, h]
theorem front_parts {p : List Int} (h : p.length ≠ 1) (r : List (List Int)) : frontP (p :: r) = (partsP p, 1) := by
  have e : valuesL (p :: r) = [] := by
    match p, h with
    | [], _ => rfl
    | [_], h => exact absurd rfl h
    | _ :: _ :: _, _ => rfl
  simp [frontP, e]
theorem simple_fore {c : Int} (h0 : 0 ≤ c) (h : c < 8) : simpleP (30 + c) = (colored 4 1 c, true) := by
  obtain rfl | rfl | rfl | rfl | rfl | rfl | rfl | rfl : c = 0 ∨ c = 1 ∨ c = 2 ∨ c = 3 ∨ c = 4 ∨ c = 5 ∨ c = 6 ∨ c = 7 := by omega
  all_goals rfl
theorem simple_fore2 {c : Int} (h0 : 8 ≤ c) (h : c < 16) : simpleP (82 + c) = (colored 4 1 c, true) := by
  obtain rfl | rfl | rfl | rfl | rfl | rfl | rfl | rfl : c = 8 ∨ c = 9 ∨ c = 10 ∨ c = 11 ∨ c = 12 ∨ c = 13 ∨ c = 14 ∨ c = 15 := by omega
  all_goals rfl
theorem simple_back {c : Int} (h0 : 0 ≤ c) (h : c < 8) : simpleP (40 + c) = (colored 5 1 c, true) := by
  obtain rfl | rfl | rfl | rfl | rfl | rfl | rfl | rfl : c = 0 ∨ c = 1 ∨ c = 2 ∨ c = 3 ∨ c = 4 ∨ c = 5 ∨ c = 6 ∨ c = 7 := by omega
  all_goals rfl
theorem simple_back2 {c : Int} (h0 : 8 ≤ c) (h : c < 16) : simpleP (92 + c) = (colored 5 1 c, true) := by
  obtain rfl | rfl | rfl | rfl | rfl | rfl | rfl | rfl : c = 8 ∨ c = 9 ∨ c = 10 ∨ c = 11 ∨ c = 12 ∨ c = 13 ∨ c = 14 ∨ c = 15 := by omega
  all_goals rfl
theorem m38 : max (0 : Int) 38 = 38 := rfl
theorem m48 : max (0 : Int) 48 = 48 := rfl
theorem m58 : max (0 : Int) 58 = 58 := rfl
theorem ofV_none {v : Int} (h1 : v ≠ 38) (h2 : v ≠ 48) (h3 : v ≠ 58) : ofV v = none := by simp [ofV, h1, h2, h3]
/-- A pen's parameter says that pen, whatever comes behind it, and takes one parameter. -/
theorem front_told {p : Pen} (h : okPen p = true) (r : List (List Int)) : frontP (toldP p :: r) = ((p, true), 1) := by
  rcases okPen_cases h with rfl | ⟨m, hm, rfl⟩ | ⟨m, hm, rfl⟩ | ⟨m, h0, h5, rfl⟩ | ⟨n, hn, hp⟩
  · exact (front_one (by decide) rfl r).trans rfl
  · rcases okAttr_cases hm with rfl | rfl | rfl | rfl | rfl | rfl | rfl | rfl <;> exact (front_one (by decide) rfl r).trans rfl
  · rcases hm with rfl | rfl | rfl | rfl | rfl | rfl | rfl <;> exact (front_one (by decide) rfl r).trans rfl
  · obtain rfl | rfl | rfl | rfl | rfl | rfl : m = 0 ∨ m = 1 ∨ m = 2 ∨ m = 3 ∨ m = 4 ∨ m = 5 := by omega
    · exact (front_one (by decide) rfl r).trans rfl
    · exact (front_one (by decide) rfl r).trans rfl
    all_goals exact (front_parts (by decide) r).trans rfl
  · rcases hp with rfl | ⟨c, h0, h1, rfl⟩ | ⟨c, h0, h1, rfl⟩
    · rcases hn with rfl | rfl | rfl <;> exact (front_one (by decide) rfl r).trans rfl
    · rcases hn with rfl | rfl | rfl
      · by_cases h8 : c < 8
        · have e : toldP (colored 4 1 c) = [30 + c] := by simp [toldP, colored, h8]
          rw [e, front_one (by omega) (ofV_none (by omega) (by omega) (by omega)), simple_fore h0 h8]
        · by_cases h16 : c < 16
          · have e : toldP (colored 4 1 c) = [82 + c] := by simp [toldP, colored, h8, h16]
            rw [e, front_one (by omega) (ofV_none (by omega) (by omega) (by omega)), simple_fore2 (by omega) h16]
          · have e : toldP (colored 4 1 c) = [38, 5, c] := by simp [toldP, colored, h8, h16]
            rw [e, front_parts (by simp)]
            simp [partsP, ofV, shade, withinL, h0, h1, m38]
      · by_cases h8 : c < 8
        · have e : toldP (colored 5 1 c) = [40 + c] := by simp [toldP, colored, h8]
          rw [e, front_one (by omega) (ofV_none (by omega) (by omega) (by omega)), simple_back h0 h8]
        · by_cases h16 : c < 16
          · have e : toldP (colored 5 1 c) = [92 + c] := by simp [toldP, colored, h8, h16]
            rw [e, front_one (by omega) (ofV_none (by omega) (by omega) (by omega)), simple_back2 (by omega) h16]
          · have e : toldP (colored 5 1 c) = [48, 5, c] := by simp [toldP, colored, h8, h16]
            rw [e, front_parts (by simp)]
            simp [partsP, ofV, shade, withinL, h0, h1, m48]
      · have e : toldP (colored 6 1 c) = [58, 5, c] := by simp [toldP, colored]
        rw [e, front_parts (by simp)]
        simp [partsP, ofV, shade, withinL, h0, h1, m58]
    · have a0 : 0 ≤ c / 65536 ∧ c / 65536 ≤ 255 := by omega
      have a1 : 0 ≤ c / 256 % 256 ∧ c / 256 % 256 ≤ 255 := by omega
      have a2 : 0 ≤ c % 256 ∧ c % 256 ≤ 255 := by omega
      have e2 : c / 65536 * 65536 + c / 256 % 256 * 256 + c % 256 = c := by omega
      have e : toldP (colored n 2 c) = [38 + 10 * (n - 4), 2, -1, c / 65536, c / 256 % 256, c % 256] := by
        rcases hn with rfl | rfl | rfl <;> simp [toldP, colored]
      have hs : shade n 2 [c / 65536, c / 256 % 256, c % 256] = (colored n 2 c, true) := by
        have hw : withinL [c / 65536, c / 256 % 256, c % 256] = true := by simp [withinL, a0, a1, a2]
        simp only [shade, hw, if_true, e2]
      rw [e, front_parts (by simp)]
      rcases hn with rfl | rfl | rfl <;> simp [partsP, ofV, hs, m38, m48, m58]
theorem pensL_cons (x : List Int) (l : List (List Int)) : pensL (x :: l) = (if (frontP (x :: l)).1.2 then [(frontP (x :: l)).1.1] else []) ++ pensL ((x :: l).drop (frontP (x :: l)).2) := by
  rw [pensL]
/-- Pens inverts Params. -/
theorem pens_told : ∀ l : List Pen, (∀ p ∈ l, okPen p = true) → pensL (l.map toldP) = l
  | [], _ => by simp [pensL]
  | p :: l, h => by
    rw [List.map_cons, pensL_cons, front_told (h p (by simp))]
    simp [pens_told l fun q hq => h q (by simp [hq])]
theorem pens_told_append (l : List Pen) (h : ∀ p ∈ l, okPen p = true) (r : List (List Int)) : pensL (l.map toldP ++ r) = l ++ pensL r := by
  induction l with
  | nil => rfl
  | cons p l ih =>
    rw [List.map_cons, List.cons_append, pensL_cons, front_told (h p (by simp))]
    simp [ih fun q hq => h q (by simp [hq])]
theorem told_okPart {p : Pen} (h : okPen p = true) : okPart (toldP p) = true := by
  rcases okPen_cases h with rfl | ⟨m, hm, rfl⟩ | ⟨m, hm, rfl⟩ | ⟨m, h0, h5, rfl⟩ | ⟨n, hn, hp⟩
  · rfl
  · rcases okAttr_cases hm with rfl | rfl | rfl | rfl | rfl | rfl | rfl | rfl <;> rfl
  · rcases hm with rfl | rfl | rfl | rfl | rfl | rfl | rfl <;> rfl
  · obtain rfl | rfl | rfl | rfl | rfl | rfl : m = 0 ∨ m = 1 ∨ m = 2 ∨ m = 3 ∨ m = 4 ∨ m = 5 := by omega
    all_goals rfl
  · rcases hp with rfl | ⟨c, h0, h1, rfl⟩ | ⟨c, h0, h1, rfl⟩
    · rcases hn with rfl | rfl | rfl <;> rfl
    · unfold toldP
      rcases hn with rfl | rfl | rfl <;> simp [colored] <;> (try split) <;> (try split) <;> simp [okPart] <;> omega
    · unfold toldP
      rcases hn with rfl | rfl | rfl <;> simp [colored, okPart] <;> omega
/-- No pen's parameter is the one of which nothing is said. -/
theorem told_ne {p : Pen} (h : okPen p = true) : toldP p ≠ [-1] := by
  intro e
  have h1 := told_okPart h
  have h2 := front_told h []
  rw [e] at h2
  have h3 : frontP ([-1] :: []) = ((pen 0 0, true), 1) := by decide
  rw [h3] at h2
  have h4 : p = pen 0 0 := by simpa using (congrArg (fun x => x.1.1) h2).symm
  subst h4
  exact absurd e (by decide)
theorem told_okRow {l : List Pen} (h : ∀ p ∈ l, okPen p = true) (hl : l.length ≤ 16) : okRow (l.map toldP) = true := by
  have h1 : (l.map toldP == [[-1]]) = false := by
    match l, h with
    | [], _ => rfl
    | [p], h => simpa using told_ne (h p (by simp))
    | _ :: _ :: _, _ => simp
  have h2 : (l.map toldP).all okPart = true := by
    rw [List.all_eq_true]
    intro x hx
    obtain ⟨p, hp, rfl⟩ := List.mem_map.1 hx
    exact told_okPart (h p hp)
  simp [okRow, h1, h2, hl]

/-- One more sign of a text. -/
def isDig (c : UInt8) : Bool := decide (48 ≤ c.toNat) && decide (c.toNat ≤ 57)
def lastL (r : List (List Int)) : List Int := r.getLast?.getD []
def setLast (r : List (List Int)) (p : List Int) : List (List Int) := r.dropLast ++ [p]
def stepR (r0 : List (List Int)) (c : UInt8) : List (List Int) × Int :=
  if okRow r0 then
    let r := if r0.isEmpty then [[-1]] else r0
    if c = 59 then (if r.length < 16 then (r ++ [[-1]], 0) else ([], 3))
    else if c = 58 then (if (lastL r).length < 6 then (setLast r (lastL r ++ [-1]), 0) else ([], 3))
    else if isDig c then (setLast r ((lastL r).dropLast ++ [min (max 0 ((lastL r).getLast?.getD 0) * 10 + ((c.toNat : Int) - 48)) 9999]), 0)
    else ([], 6)
  else ([], 150)
def parseR : List (List Int) → List UInt8 → List (List Int) × Int
  | r, [] => (r, 0)
  | r, c :: s => if (stepR r c).2 = 0 then parseR (stepR r c).1 s else ([], (stepR r c).2)
/-- The text of a row. -/
def partT (n : Int) : List UInt8 := if n = -1 then [] else Lib.itoa n
def paramT : List Int → List UInt8
  | [] => []
  | n :: l => partT n ++ (l.flatMap fun n => 58 :: partT n)
def rowT : List (List Int) → List UInt8
  | [] => []
  | p :: l => paramT p ++ (l.flatMap fun p => 59 :: paramT p)
theorem parse_cons {r r' : List (List Int)} {c : UInt8} {s : List UInt8} (h : stepR r c = (r', 0)) : parseR r (c :: s) = parseR r' s := by
  rw [parseR, h, if_pos rfl]
theorem okPart_iff {p : List Int} : okPart p = true ↔ p ≠ [] ∧ p.length ≤ 6 ∧ ∀ n ∈ p, -1 ≤ n ∧ n ≤ 9999 := by
  simp [okPart]
theorem okRow_iff {r : List (List Int)} : okRow r = true ↔ r.length ≤ 16 ∧ r ≠ [[-1]] ∧ ∀ p ∈ r, okPart p = true := by
  simp [okRow]
/-- A row, or the one of which nothing is said: there the reader stands at the text's beginning. -/
def okV (r : List (List Int)) : Prop := r ≠ [] ∧ r.length ≤ 16 ∧ ∀ p ∈ r, okPart p = true
def realR (r : List (List Int)) : List (List Int) := if r = [[-1]] then [] else r
def stepC (r : List (List Int)) (c : UInt8) : List (List Int) × Int :=
  if c = 59 then (if r.length < 16 then (r ++ [[-1]], 0) else ([], 3))
  else if c = 58 then (if (lastL r).length < 6 then (setLast r (lastL r ++ [-1]), 0) else ([], 3))
  else if isDig c then (setLast r ((lastL r).dropLast ++ [min (max 0 ((lastL r).getLast?.getD 0) * 10 + ((c.toNat : Int) - 48)) 9999]), 0)
  else ([], 6)
theorem step_real {r : List (List Int)} (h : okV r) (c : UInt8) : stepR (realR r) c = stepC r c := by
  obtain ⟨h1, h2, h3⟩ := h
  unfold realR
  by_cases hr : r = [[-1]]
  · subst hr
    rfl
  · have h4 : okRow r = true := okRow_iff.2 ⟨h2, hr, h3⟩
    rw [if_neg hr, stepR, if_pos h4]
    cases r with
    | nil => exact absurd rfl h1
    | cons => rfl
theorem parse_step {r r' : List (List Int)} (h : okV r) {c : UInt8} (hc : stepC r c = (r', 0)) (hr : r' ≠ [[-1]]) (s : List UInt8) : parseR (realR r) (c :: s) = parseR (realR r') s := by
  rw [parse_cons ((step_real h c).trans hc), realR, if_neg hr]
theorem okV_snoc {R : List (List Int)} {p : List Int} (h1 : R.length < 16) (h2 : ∀ q ∈ R, okPart q = true) (h3 : okPart p = true) : okV (R ++ [p]) :=
  ⟨by simp, by simp; omega, fun q hq => by
    rcases List.mem_append.1 hq with h | h
    · exact h2 q h
    · obtain rfl : q = p := by simpa using h
      exact h3⟩
theorem okPart_snoc {p : List Int} {x : Int} (h1 : p.length < 6) (h2 : ∀ n ∈ p, -1 ≤ n ∧ n ≤ 9999) (hx : -1 ≤ x ∧ x ≤ 9999) : okPart (p ++ [x]) = true :=
  okPart_iff.2 ⟨by simp, by simp; omega, fun n hn => by
    rcases List.mem_append.1 hn with h | h
    · exact h2 n h
    · obtain rfl : n = x := by simpa using h
      exact hx⟩
theorem last_snoc (R : List (List Int)) (p : List Int) : lastL (R ++ [p]) = p := by simp [lastL]
theorem setLast_snoc (R : List (List Int)) (p q : List Int) : setLast (R ++ [p]) q = R ++ [q] := by simp [setLast]
theorem snoc_ne {R : List (List Int)} {p : List Int} {x : Int} (hx : 0 ≤ x) : R ++ [p ++ [x]] ≠ [[-1]] := by
  intro h
  have h1 := congrArg (fun r => (lastL r).getLast?.getD 0) h
  simp [lastL] at h1
  omega
theorem step_digit (R : List (List Int)) (p : List Int) (x : Int) (d : Nat) (hd : d < 10) : stepC (R ++ [p ++ [x]]) (UInt8.ofNat (48 + d)) = (R ++ [p ++ [min (max 0 x * 10 + d) 9999]], 0) := by
  have hc : (UInt8.ofNat (48 + d)).toNat = 48 + d := by
    rw [UInt8.toNat_ofNat']
    omega
  have n1 : ¬ UInt8.ofNat (48 + d) = 59 := fun e => by
    have := congrArg UInt8.toNat e
    rw [hc] at this
    have h2 : (59 : UInt8).toNat = 59 := rfl
    omega
  have n2 : ¬ UInt8.ofNat (48 + d) = 58 := fun e => by
    have := congrArg UInt8.toNat e
    rw [hc] at this
    have h2 : (58 : UInt8).toNat = 58 := rfl
    omega
  have hd' : isDig (UInt8.ofNat (48 + d)) = true := by
    unfold isDig
    rw [hc]
    simp
    omega
  have e : ((UInt8.ofNat (48 + d)).toNat : Int) - 48 = d := by rw [hc]; omega
  rw [stepC, if_neg n1, if_neg n2, if_pos hd', last_snoc, setLast_snoc, e]
  simp
/-- A number's digits are read. -/
theorem parse_digits (R : List (List Int)) (p : List Int) (h1 : R.length < 16) (h2 : ∀ q ∈ R, okPart q = true) (h3 : p.length < 6) (h4 : ∀ n ∈ p, -1 ≤ n ∧ n ≤ 9999) :
    ∀ (u : Nat), u ≤ 9999 → ∀ s, parseR (realR (R ++ [p ++ [-1]])) (Lib.decDigits u ++ s) = parseR (realR (R ++ [p ++ [(u : Int)]])) s := by
  intro u
  induction u using Nat.strongRecOn with
  | ind u ih =>
    intro hu s
    rw [Lib.decDigits]
    split
    · rename_i hlt
      have hs := step_digit R p (-1) u hlt
      have e : min (max 0 (-1 : Int) * 10 + (u : Int)) 9999 = u := by omega
      rw [e] at hs
      exact parse_step (okV_snoc h1 h2 (okPart_snoc h3 h4 (by omega))) hs (snoc_ne (by omega)) s
    · rename_i hlt
      have hs := step_digit R p ((u / 10 : Nat) : Int) (u % 10) (by omega)
      have e : min (max 0 ((u / 10 : Nat) : Int) * 10 + ((u % 10 : Nat) : Int)) 9999 = u := by omega
      rw [e] at hs
      rw [List.append_assoc, ih (u / 10) (by omega) (by omega)]
      exact parse_step (okV_snoc h1 h2 (okPart_snoc h3 h4 (by omega))) hs (snoc_ne (by omega)) s
theorem parse_part (R : List (List Int)) (p : List Int) (h1 : R.length < 16) (h2 : ∀ q ∈ R, okPart q = true) (h3 : p.length < 6) (h4 : ∀ n ∈ p, -1 ≤ n ∧ n ≤ 9999) (n : Int) (hn : -1 ≤ n ∧ n ≤ 9999) (s : List UInt8) :
    parseR (realR (R ++ [p ++ [-1]])) (partT n ++ s) = parseR (realR (R ++ [p ++ [n]])) s := by
  unfold partT
  by_cases h : n = -1
  · subst h
    simp
  · rw [if_neg h, Lib.itoa, if_neg (by omega), parse_digits R p h1 h2 h3 h4 n.toNat (by omega)]
    rw [show ((n.toNat : Nat) : Int) = n by omega]
theorem parse_parts (R : List (List Int)) (h1 : R.length < 16) (h2 : ∀ q ∈ R, okPart q = true) : ∀ (l p : List Int), p ≠ [] → p.length + l.length ≤ 6 → (∀ n ∈ p, -1 ≤ n ∧ n ≤ 9999) → (∀ n ∈ l, -1 ≤ n ∧ n ≤ 9999) → ∀ s,
    parseR (realR (R ++ [p])) ((l.flatMap fun n => 58 :: partT n) ++ s) = parseR (realR (R ++ [p ++ l])) s
  | [], p, _, _, _, _, s => by simp
  | n :: l, p, hp, hl, h3, h4, s => by
    have hl' : p.length < 6 := by simp at hl; omega
    have hs : stepC (R ++ [p]) 58 = (R ++ [p ++ [-1]], 0) := by
      rw [stepC, if_neg (by decide), if_pos rfl, last_snoc, setLast_snoc, if_pos hl']
    have hne : R ++ [p ++ [-1]] ≠ [[-1]] := by
      intro h
      have h1 := congrArg lastL h
      rw [last_snoc] at h1
      have : p = [] := by
        have h5 := congrArg List.length h1
        simp [lastL] at h5
        exact h5
      exact hp this
    have hok : okV (R ++ [p]) := okV_snoc h1 h2 (okPart_iff.2 ⟨hp, by omega, h3⟩)
    rw [List.flatMap_cons, List.append_assoc, List.cons_append, parse_step hok hs hne, parse_part R p h1 h2 hl' h3 n (h4 n (by simp))]
    have ih := parse_parts R h1 h2 l (p ++ [n]) (by simp) (by simp at hl ⊢; omega) (fun x hx => by
      rcases List.mem_append.1 hx with h | h
      · exact h3 x h
      · obtain rfl : x = n := by simpa using h
        exact h4 x (by simp)) (fun x hx => h4 x (by simp [hx])) s
    rw [ih]
    simp
theorem parse_param (R : List (List Int)) (h1 : R.length < 16) (h2 : ∀ q ∈ R, okPart q = true) (p : List Int) (hp : okPart p = true) (s : List UInt8) :
    parseR (realR (R ++ [[-1]])) (paramT p ++ s) = parseR (realR (R ++ [p])) s := by
  obtain ⟨h3, h4, h5⟩ := okPart_iff.1 hp
  cases p with
  | nil => exact absurd rfl h3
  | cons n l =>
    have e := parse_part R [] h1 h2 (by simp) (by simp) n (h5 n (by simp)) ((l.flatMap fun n => 58 :: partT n) ++ s)
    simp only [List.nil_append] at e
    rw [paramT, List.append_assoc, e, parse_parts R h1 h2 l [n] (by simp) (by simp at h4 ⊢; omega) (fun x hx => by
      obtain rfl : x = n := by simpa using hx
      exact h5 x (by simp)) (fun x hx => h5 x (by simp [hx]))]
    simp
theorem parse_rows : ∀ (l R : List (List Int)), R ≠ [] → R.length + l.length ≤ 16 → (∀ q ∈ R, okPart q = true) → (∀ q ∈ l, okPart q = true) → ∀ s,
    parseR (realR R) ((l.flatMap fun p => 59 :: paramT p) ++ s) = parseR (realR (R ++ l)) s
  | [], R, _, _, _, _, s => by simp
  | p :: l, R, hR, hl, h2, h3, s => by
    have hl' : R.length < 16 := by simp at hl; omega
    have hs : stepC R 59 = (R ++ [[-1]], 0) := by rw [stepC, if_pos rfl, if_pos hl']
    have hne : R ++ [[-1]] ≠ [[-1]] := by simpa using hR
    rw [List.flatMap_cons, List.append_assoc, List.cons_append, parse_step ⟨hR, by omega, h2⟩ hs hne, parse_param R hl' h2 p (h3 p (by simp))]
    have ih := parse_rows l (R ++ [p]) (by simp) (by simp at hl ⊢; omega) (fun x hx => by
      rcases List.mem_append.1 hx with h | h
      · exact h2 x h
      · obtain rfl : x = p := by simpa using h
        exact h3 x (by simp)) (fun x hx => h3 x (by simp [hx])) s
    rw [ih]
    simp
/-- A row's text, read, is the row. -/
theorem parse_row {r : List (List Int)} (h : okRow r = true) : parseR [] (rowT r) = (r, 0) := by
  obtain ⟨h1, h2, h3⟩ := okRow_iff.1 h
  cases r with
  | nil => rfl
  | cons p l =>
    have e := parse_param [] (by simp) (by simp) p (h3 p (by simp)) ((l.flatMap fun p => 59 :: paramT p) ++ [])
    have e2 := parse_rows l [p] (by simp) (by simp at h1 ⊢; omega) (fun x hx => by
      obtain rfl : x = p := by simpa using hx
      exact h3 x (by simp)) (fun x hx => h3 x (by simp [hx])) []
    have e3 : realR [[-1]] = [] := rfl
    have e4 : realR (p :: l) = p :: l := if_neg h2
    simp only [List.nil_append, List.append_nil, e3] at e e2
    rw [rowT, e, e2]
    simp only [List.singleton_append, e4]
    rfl
theorem withinL_iff {l : List Int} : withinL l = true ↔ ∀ n ∈ l, 0 ≤ n ∧ n ≤ 255 := by simp [withinL]
theorem okPen_index {n c : Int} (hn : n = 4 ∨ n = 5 ∨ n = 6) (hc : 0 ≤ c ∧ c ≤ 255) : okPen (colored n 1 c) = true := by
  rcases hn with rfl | rfl | rfl <;> simp [okPen, colored, okCol, hc]
theorem okPen_rgb {n c : Int} (hn : n = 4 ∨ n = 5 ∨ n = 6) (hc : 0 ≤ c ∧ c ≤ 16777215) : okPen (colored n 2 c) = true := by
  rcases hn with rfl | rfl | rfl <;> simp [okPen, colored, okCol, hc]
theorem ofV_some {v n : Int} (h : ofV v = some n) : n = 4 ∨ n = 5 ∨ n = 6 := by
  unfold ofV at h
  split at h
  · simp at h; omega
  · split at h
    · simp at h; omega
    · split at h
      · simp at h; omega
      · cases h
theorem shade_ok {n how : Int} {l : List Int} (hn : n = 4 ∨ n = 5 ∨ n = 6) (h : (shade n how l).2 = true) : okPen (shade n how l).1 = true := by
  unfold shade at h ⊢
  by_cases hw : withinL l = true
  · rw [if_pos hw] at h ⊢
    have hw' := withinL_iff.1 hw
    split at h
    · split at h
      · rename_i he
        simp only [he, if_true]
        exact okPen_index hn (hw' _ (by simp))
      · cases h
    · split at h
      · rename_i a b c he
        simp only [he, if_true]
        have h1 := hw' a (by simp)
        have h2 := hw' b (by simp)
        have h3 := hw' c (by simp)
        exact okPen_rgb hn (by omega)
      · cases h
    · cases h
  · rw [if_neg hw] at h
    cases h
theorem simple_tab : ∀ k : Fin 108, (match simpleV (k.val : Int) with | some p => okPen p | none => true) = true := by decide +kernel
theorem simple_out {v : Int} (h : v < 0 ∨ 107 < v) : simpleV v = none := by
  unfold simpleV
  repeat rw [if_neg (by omega)]
theorem simple_ok {v : Int} (h : (simpleP v).2 = true) : okPen (simpleP v).1 = true := by
  by_cases hv : v < 0 ∨ 107 < v
  · rw [simpleP, simple_out hv] at h
    cases h
  · have h1 := simple_tab ⟨v.toNat, by omega⟩
    have e : ((v.toNat : Nat) : Int) = v := by omega
    simp only [e] at h1
    unfold simpleP at h ⊢
    cases hs : simpleV v with
    | none => rw [hs] at h; cases h
    | some p => rw [hs] at h1; exact h1
theorem parts_ok {s : List Int} {q : Pen × Bool} (e : partsP s = q) (h : q.2 = true) : okPen q.1 = true := by
  unfold partsP at e
  dsimp only at e
  split at e
  · subst e
    generalize s.getD 1 0 = x at *
    simp only [Bool.and_eq_true, decide_eq_true_eq] at h
    simp [okPen, pen, h]
  · split at e
    · subst e
      cases h
    · rename_i n hn
      have hn' := ofV_some hn
      split at e
      · subst e
        exact shade_ok hn' h
      · split at e
        · subst e
          exact shade_ok hn' h
        · subst e
          cases h
theorem front_ok' {l : List (List Int)} {q : (Pen × Bool) × Nat} (e : frontP l = q) (h : q.1.2 = true) : okPen q.1.1 = true := by
  unfold frontP at e
  dsimp only at e
  split at e
  · subst e
    exact parts_ok rfl h
  · split at e
    · rename_i w hw
      have hn := ofV_some hw
      split at e
      · subst e
        dsimp only at h ⊢
        generalize (if (valuesL l).getD 1 0 = 2 then 5 else 3) = k at *
        by_cases h3 : k ≤ (valuesL l).length
        · rw [if_pos h3] at h ⊢
          exact shade_ok hn h
        · rw [if_neg h3] at h
          cases h
      · subst e
        exact simple_ok h
    · subst e
      exact simple_ok h
theorem front_ok {l : List (List Int)} (h : (frontP l).1.2 = true) : okPen (frontP l).1.1 = true := front_ok' rfl h
/-- Pens are valid, and not more than parameters. -/
theorem pens_sound : ∀ (k : Nat) (l : List (List Int)), l.length ≤ k → (∀ p ∈ pensL l, okPen p = true) ∧ (pensL l).length ≤ l.length := by
  intro k
  induction k with
  | zero =>
    intro l hl
    obtain rfl : l = [] := List.length_eq_zero_iff.1 (by omega)
    simp [pensL]
  | succ k ih =>
    intro l hl
    cases l with
    | nil => simp [pensL]
    | cons x l =>
      have hp := frontP_pos x l
      obtain ⟨h1, h2⟩ := ih ((x :: l).drop (frontP (x :: l)).2) (by simp only [List.length_drop, List.length_cons] at hl ⊢; omega)
      rw [pensL_cons]
      refine ⟨fun p hm => ?_, ?_⟩
      · rcases List.mem_append.1 hm with h | h
        · split at h
          · rename_i hf
            obtain rfl := List.mem_singleton.1 h
            exact front_ok hf
          · cases h
        · exact h1 p h
      · simp only [List.length_append, List.length_drop, List.length_cons] at h2 ⊢
        split
        · simp only [List.length_singleton]
          omega
        · simp only [List.length_nil]
          omega
theorem okPen_reset : okPen (pen 0 0) = true := rfl
theorem pensOf_sound (l : List (List Int)) : (∀ p ∈ pensOf l, okPen p = true) ∧ (pensOf l).length ≤ max 1 l.length := by
  unfold pensOf
  split
  · split
    · exact ⟨by simp [okPen_reset], by simp only [List.length_singleton]; omega⟩
    · obtain ⟨h1, h2⟩ := pens_sound _ l (Nat.le_refl _)
      exact ⟨h1, by omega⟩
  · exact ⟨by simp, by simp⟩
theorem pensOf_told {l : List Pen} (h : ∀ p ∈ l, okPen p = true) (h0 : l ≠ []) (hl : l.length ≤ 16) : pensOf (l.map toldP) = l := by
  rw [pensOf, if_pos (told_okRow h hl), if_neg (by cases l <;> simp at h0 ⊢), pens_told l h]
/-! The reference's words, and that they say the same. -/
def whichV (v : Int) : Int := if v = 38 then 4 else if v = 48 then 5 else if v = 58 then 6 else -1
def rgbP (n r g b : Int) : Pen := colored n 2 (r * 65536 + g * 256 + b)
/-- What the reference says of the first parameter alone. -/
def aloneR (s : List Int) : Pen × Bool :=
  let v := max 0 (s.getD 0 0)
  if s.length = 1 then simpleP v
  else if v = 4 ∧ s.length = 2 ∧ 0 ≤ s.getD 1 0 ∧ s.getD 1 0 ≤ 5 then (pen 3 (s.getD 1 0), true)
  else if 0 ≤ whichV v ∧ s.length = 3 ∧ s.getD 1 0 = 5 ∧ withinL [s.getD 2 0] = true then (colored (whichV v) 1 (s.getD 2 0), true)
  else if 0 ≤ whichV v ∧ s.length = 5 ∧ s.getD 1 0 = 2 ∧ withinL [s.getD 2 0, s.getD 3 0, s.getD 4 0] = true then (rgbP (whichV v) (s.getD 2 0) (s.getD 3 0) (s.getD 4 0), true)
  else if 0 ≤ whichV v ∧ s.length = 6 ∧ s.getD 1 0 = 2 ∧ withinL [s.getD 3 0, s.getD 4 0, s.getD 5 0] = true then (rgbP (whichV v) (s.getD 3 0) (s.getD 4 0) (s.getD 5 0), true)
  else (noPen, false)
def frontR (l : List (List Int)) : (Pen × Bool) × Nat :=
  let v := valuesL l
  if 2 ≤ v.length ∧ 0 ≤ whichV (v.getD 0 0) then
    if v.getD 1 0 = 5 ∧ 3 ≤ v.length ∧ withinL [v.getD 2 0] = true then ((colored (whichV (v.getD 0 0)) 1 (v.getD 2 0), true), 3)
    else if v.getD 1 0 = 2 ∧ 5 ≤ v.length ∧ withinL [v.getD 2 0, v.getD 3 0, v.getD 4 0] = true then ((rgbP (whichV (v.getD 0 0)) (v.getD 2 0) (v.getD 3 0) (v.getD 4 0), true), 5)
    else if v.getD 1 0 = 5 then ((noPen, false), min 3 l.length)
    else if v.getD 1 0 = 2 then ((noPen, false), min 5 l.length)
    else (aloneR (l.getD 0 []), 1)
  else (aloneR (l.getD 0 []), 1)
/-- Two answers say the same: how many parameters, whether there is a pen, and which. -/
def sameF (p q : (Pen × Bool) × Nat) : Prop := p.2 = q.2 ∧ p.1.2 = q.1.2 ∧ (p.1.2 = true → p.1.1 = q.1.1)
theorem ofV_which (v : Int) : ofV v = if 0 ≤ whichV v then some (whichV v) else none := by
  unfold ofV whichV
  repeat' split
  all_goals first | rfl | omega
def sameP (p q : Pen × Bool) : Prop := p.2 = q.2 ∧ (p.2 = true → p.1 = q.1)
theorem parts_alone {s : List Int} (h : s.length ≠ 1) : sameP (partsP s) (aloneR s) := by
  unfold partsP aloneR
  dsimp only
  rw [if_neg h]
  generalize hv : max 0 (s.getD 0 0) = v
  rw [ofV_which]
  match s, h with
  | [], _ =>
    have : v = 0 := by subst hv; rfl
    subst this
    simp [sameP, whichV]
  | [a, x], _ =>
    simp [sameP]
    by_cases h4 : v = 4
    · subst h4
      by_cases hx : 0 ≤ x ∧ x ≤ 5
      · simp [hx]
      · simp [hx]
        intro h0
        omega
    · simp only [h4, false_and, if_false]
      by_cases hw : 0 ≤ whichV v
      · simp [hw]
      · simp [hw]
  | [a, x, b], _ =>
    by_cases hw : 0 ≤ whichV v
    · simp [sameP, hw, shade]
      by_cases hx : x = 5
      · subst hx
        by_cases hl : withinL [b] = true <;> simp [hl]
      · by_cases hl : withinL [b] = true <;> simp [hl, hx]
    · simp [sameP, hw]
  | [a, x, b, c], _ =>
    by_cases hw : 0 ≤ whichV v
    · simp [sameP, hw, shade]
    · simp [sameP, hw]
  | [a, x, b, c, d], _ =>
    by_cases hw : 0 ≤ whichV v
    · simp [sameP, hw, shade, rgbP]
      by_cases hx : x = 2
      · subst hx
        by_cases hl : withinL [b, c, d] = true <;> simp [hl]
      · by_cases hl : withinL [b, c, d] = true <;> simp [hl, hx]
    · simp [sameP, hw]
  | [a, x, b, c, d, e], _ =>
    by_cases hw : 0 ≤ whichV v
    · by_cases hx : x = 2
      · subst hx
        by_cases hl : withinL [c, d, e] = true <;> simp [sameP, hw, shade, rgbP, hl]
      · simp [sameP, hw, shade, hx]
    · simp [sameP, hw]
  | a :: x :: b :: c :: d :: e :: f :: t, _ =>
    have n1 : ¬ (t.length + 1 + 1 + 1 + 1 + 1 + 1 + 1 = 6) := by omega
    by_cases hw : 0 ≤ whichV v
    · simp [sameP, hw, shade]
    · simp [sameP, hw]
theorem values_cons_one (x : Int) (r : List (List Int)) : valuesL ([x] :: r) = max 0 x :: valuesL r := rfl
theorem values_not {p : List Int} (h : p.length ≠ 1) (r : List (List Int)) : valuesL (p :: r) = [] := by
  match p, h with
  | [], _ => rfl
  | [_], h => exact absurd rfl h
  | _ :: _ :: _, _ => rfl
theorem values_le : ∀ l : List (List Int), (valuesL l).length ≤ l.length
  | [] => by simp [valuesL]
  | p :: r => by
    by_cases h : p.length = 1
    · obtain ⟨x, rfl⟩ := List.length_eq_one_iff.1 h
      have := values_le r
      simp [valuesL]
      omega
    · rw [values_not h]
      simp
theorem list3 {v : List Int} (h : 3 ≤ v.length) : (v.take 3).drop 2 = [v.getD 2 0] := by
  match v, h with
  | _ :: _ :: _ :: _, _ => rfl
theorem list5 {v : List Int} (h : 5 ≤ v.length) : (v.take 5).drop 2 = [v.getD 2 0, v.getD 3 0, v.getD 4 0] := by
  match v, h with
  | _ :: _ :: _ :: _ :: _ :: _, _ => rfl
/-- Program and reference say the same of a row's front. -/
theorem front_same (x : List Int) (l : List (List Int)) : sameF (frontP (x :: l)) (frontR (x :: l)) := by
  by_cases hx : x.length = 1
  · obtain ⟨y, rfl⟩ := List.length_eq_one_iff.1 hx
    have ha : aloneR [y] = simpleP (max 0 y) := by simp [aloneR]
    unfold frontP frontR
    dsimp only
    rw [if_neg (by rw [values_cons_one]; simp)]
    rw [show ([y] :: l).getD 0 [] = [y] from rfl, ha, ofV_which]
    have hv0 : (valuesL ([y] :: l)).getD 0 0 = max 0 y := rfl
    rw [hv0]
    generalize max 0 y = v0
    have hn := values_le ([y] :: l)
    generalize valuesL ([y] :: l) = v at *
    generalize ([y] :: l).length = n at *
    have e3 : 3 ≤ v.length → (v.take 3).drop 2 = [v.getD 2 0] := list3
    have e5 : 5 ≤ v.length → (v.take 5).drop 2 = [v.getD 2 0, v.getD 3 0, v.getD 4 0] := list5
    generalize v.getD 1 0 = x1 at *
    generalize v.getD 2 0 = x2 at *
    generalize v.getD 3 0 = x3 at *
    generalize v.getD 4 0 = x4 at *
    generalize v.length = L at *
    generalize simpleP v0 = sp
    by_cases hw : 0 ≤ whichV v0
    · rw [if_pos hw]
      dsimp only
      generalize whichV v0 = w at *
      by_cases h1 : 1 < L
      · have h1' : 2 ≤ L ∧ 0 ≤ w := ⟨h1, hw⟩
        by_cases h5 : x1 = 5
        · subst h5
          have q : ¬ ((5 : Int) = 2) := by decide
          rw [if_pos (show 1 < L ∧ ((5 : Int) = 5 ∨ (5 : Int) = 2) from ⟨h1, Or.inl rfl⟩), if_pos h1']
          simp only [if_neg q, true_and]
          by_cases h3 : 3 ≤ L
          · rw [e3 h3]
            by_cases hl : withinL [x2] = true
            · rw [if_pos h3, if_pos (show _ ∧ _ from ⟨h3, hl⟩)]
              refine ⟨by simp; omega, ?_⟩
              simp [shade, hl]
            · rw [if_pos h3, if_neg (fun h : _ ∧ _ => hl h.2)]
              refine ⟨rfl, ?_⟩
              simp [shade, hl]
          · rw [if_neg h3, if_neg (fun h : _ ∧ _ => h3 h.1)]
            exact ⟨rfl, rfl, fun h => (by cases h)⟩
        · by_cases h2 : x1 = 2
          · subst h2
            have q : ¬ ((2 : Int) = 5) := by decide
            rw [if_pos (show 1 < L ∧ ((2 : Int) = 5 ∨ (2 : Int) = 2) from ⟨h1, Or.inr rfl⟩), if_pos h1']
            simp only [if_neg q, true_and, if_true]
            by_cases h3 : 5 ≤ L
            · rw [e5 h3]
              by_cases hl : withinL [x2, x3, x4] = true
              · rw [if_pos h3, if_pos (show _ ∧ _ from ⟨h3, hl⟩)]
                refine ⟨by simp; omega, ?_⟩
                simp [shade, hl, rgbP]
              · rw [if_pos h3, if_neg (fun h : _ ∧ _ => hl h.2)]
                refine ⟨rfl, ?_⟩
                simp [shade, hl]
            · rw [if_neg h3, if_neg (fun h : _ ∧ _ => h3 h.1)]
              exact ⟨rfl, rfl, fun h => (by cases h)⟩
          · rw [if_neg (fun h => h.2.elim h5 h2), if_pos h1']
            simp only [h5, h2, false_and, if_false]
            exact ⟨rfl, rfl, fun _ => rfl⟩
      · rw [if_neg (fun h => h1 h.1), if_neg (fun h => h1 h.1)]
        exact ⟨rfl, rfl, fun _ => rfl⟩
    · rw [if_neg hw]
      dsimp only
      rw [if_neg (fun h : 2 ≤ L ∧ 0 ≤ whichV v0 => hw h.2)]
      exact ⟨rfl, rfl, fun _ => rfl⟩
  · have e : valuesL (x :: l) = [] := values_not hx l
    unfold frontP frontR
    simp only [e]
    have h := parts_alone hx
    exact ⟨rfl, h.1, h.2⟩
theorem pensL_same (f : List (List Int) → (Pen × Bool) × Nat) (hf : ∀ x l, sameF (frontP (x :: l)) (f (x :: l))) (x : List Int) (l : List (List Int)) :
    pensL (x :: l) = (if (f (x :: l)).1.2 then [(f (x :: l)).1.1] else []) ++ pensL ((x :: l).drop (f (x :: l)).2) := by
  obtain ⟨h1, h2, h3⟩ := hf x l
  rw [pensL_cons, h1, ← h2]
  by_cases h : (frontP (x :: l)).1.2 = true
  · rw [if_pos h, if_pos h, h3 h]
  · rw [if_neg h, if_neg h]
end Go.Proofs.YtobbphkfdhjmdaaDoor

namespace Go.Proofs.YtobbphkfdhjmdaaDoor
open Go.RowKit
theorem Grows.cellOf {w w' : World} (g : Grows w w') {n i : Nat} (hn : n < w.heap.size) : w'.cell? ⟨n, i, none⟩ = w.cell? ⟨n, i, none⟩ := by
  obtain ⟨h, d, rfl⟩ := g
  exact ext_cell _ _ _ _ _ hn
theorem Grows.size {w w' : World} (g : Grows w w') : w.heap.size ≤ w'.heap.size := g.below.size
/-- A slice's head: where it lies, if it is not empty. -/
def IntsIn (w : World) (k : IntKind) (a : Option Addr) (l : List Int) : Prop := l ≠ [] → ∃ b off, a = some ⟨b, off, none⟩ ∧ b < w.heap.size ∧ ∀ i, i < l.length → w.cell? ⟨b, off + i, none⟩ = some (.int k (l[i]?.getD 0))
/-- A slice of integers. -/
def IntsAt (w : World) (v : Value) (l : List Int) : Prop := ∃ a cap, v = .slice a l.length cap ∧ l.length ≤ cap ∧ IntsIn w .i64 a l
theorem IntsIn.grows {w w' : World} {k : IntKind} {a : Option Addr} {l : List Int} (h : IntsIn w k a l) (g : Grows w w') : IntsIn w' k a l := by
  intro hl
  obtain ⟨b, off, ha, hb, hc⟩ := h hl
  exact ⟨b, off, ha, Nat.lt_of_lt_of_le hb g.size, fun i hi => (g.cellOf hb).trans (hc i hi)⟩
theorem IntsAt.grows {w w' : World} {v : Value} {l : List Int} (h : IntsAt w v l) (g : Grows w w') : IntsAt w' v l := by
  obtain ⟨a, cap, hv, hc, hi⟩ := h
  exact ⟨a, cap, hv, hc, hi.grows g⟩
theorem IntsAt.nil (w : World) : IntsAt w (.slice none 0 0) [] := ⟨none, 0, rfl, Nat.le_refl _, fun h => absurd rfl h⟩
/-- A slice of parameters: each a slice of integers in one cell. -/
def RowIn (w : World) (a : Option Addr) (r : List (List Int)) : Prop := r ≠ [] → ∃ b off, a = some ⟨b, off, none⟩ ∧ b < w.heap.size ∧ ∀ i, i < r.length → ∃ s, w.cell? ⟨b, off + i, none⟩ = some s ∧ IntsAt w s (r[i]?.getD [])
def RowAt (w : World) (v : Value) (r : List (List Int)) : Prop := ∃ a cap, v = .slice a r.length cap ∧ r.length ≤ cap ∧ RowIn w a r
theorem RowIn.grows {w w' : World} {a : Option Addr} {r : List (List Int)} (h : RowIn w a r) (g : Grows w w') : RowIn w' a r := by
  intro hl
  obtain ⟨b, off, ha, hb, hc⟩ := h hl
  refine ⟨b, off, ha, Nat.lt_of_lt_of_le hb g.size, fun i hi => ?_⟩
  obtain ⟨s, hs, hi'⟩ := hc i hi
  exact ⟨s, (g.cellOf hb).trans hs, hi'.grows g⟩
theorem RowAt.grows {w w' : World} {v : Value} {r : List (List Int)} (h : RowAt w v r) (g : Grows w w') : RowAt w' v r := by
  obtain ⟨a, cap, hv, hc, hi⟩ := h
  exact ⟨a, cap, hv, hc, hi.grows g⟩
theorem RowAt.nil (w : World) : RowAt w (.slice none 0 0) [] := ⟨none, 0, rfl, Nat.le_refl _, fun h => absurd rfl h⟩
end Go.Proofs.YtobbphkfdhjmdaaDoor

namespace Go.Proofs.YtobbphkfdhjmdaaDoor
open Go.MapKept Go.RowKit
/-- A pen as a value. -/
def pv (p : Pen) : Value := .agg #[.int .i64 39, .int .i64 p.n, .int .i64 p.m, .int .i64 p.ck, .int .i64 p.cn, .string ⟨#[]⟩]
def saysK (es : Array MapEntry) (f : Int → Option Pen) : Prop := ∀ k : Int, match f k with | none => ∀ x ∈ es.toList, x.key ≠ .int .i64 k | some p => ∃ x ∈ es.toList, x.key = .int .i64 k ∧ x.val = pv p
def MapP (w : World) (r : Nat) (f : Int → Option Pen) : Prop := ∃ es c, w.heap[r]? = some (.map es c) ∧ Stamped es c ∧ (∀ x ∈ es.toList, IsKey (.int .i64) x.key) ∧ saysK es f
def updP (f : Int → Option Pen) (k : Int) (p : Pen) : Int → Option Pen := fun j => if j = k then some p else f j
/-- Another map in that block. -/
def setMap (w : World) (r : Nat) (o : Obj) : World := { w with heap := w.heap.setIfInBounds r o }
theorem setMap_size (w : World) (r : Nat) (o : Obj) : (setMap w r o).heap.size = w.heap.size := by simp [setMap]
attribute [go_sem] setMap_size
@[go_sem] theorem setMap_cell (w : World) (r n i : Nat) (o : Obj) (h : ¬ n = r) : (setMap w r o).cell? ⟨n, i, none⟩ = w.cell? ⟨n, i, none⟩ :=
  World.cell?_of_block (w := w) (by simp [setMap, Ne.symm h])
@[go_sem] theorem setMap_frozen (w : World) (r n i : Nat) (o : Obj) (h : ¬ n = r) : (setMap w r o).frozen? ⟨n, i, none⟩ = w.frozen? ⟨n, i, none⟩ :=
  World.frozen?_of_block (w := w) (by simp [setMap, Ne.symm h])
theorem Grows.setMap {w w' : World} (g : Grows w w') {r : Nat} (hr : w.heap.size ≤ r) (o : Obj) : Grows w (Proofs.YtobbphkfdhjmdaaDoor.setMap w' r o) := by
  have hb := g.below
  refine Grows.of_below ⟨hb.os, hb.tape, hb.output, by rw [setMap_size]; exact hb.size, fun k hk => ?_⟩
  have : ¬ r = k := by omega
  rw [← hb.block k hk]
  simp [Proofs.YtobbphkfdhjmdaaDoor.setMap, this]
theorem MapP.grows {w w' : World} {r : Nat} {f : Int → Option Pen} (h : MapP w r f) (g : Grows w w') : MapP w' r f := by
  obtain ⟨es, c, h1, h2⟩ := h
  exact ⟨es, c, (g.below.block r (Array.getElem?_eq_some_iff.1 h1).1).trans h1, h2⟩
theorem MapP.lt {w : World} {r : Nat} {f : Int → Option Pen} (h : MapP w r f) : r < w.heap.size := by
  obtain ⟨es, c, h1, h2⟩ := h
  exact (Array.getElem?_eq_some_iff.1 h1).1
theorem MapP.empty {w : World} {r : Nat} {c : Nat} (h : w.heap[r]? = some (.map #[] c)) : MapP w r (fun _ => none) :=
  ⟨#[], c, h, stamped_empty c, by simp, fun k x hx => by simp at hx⟩
theorem key_i64 (k : Int) : IsKey (.int .i64) (.int .i64 k) := rfl
theorem key_inj {a b : Int} (h : (Value.int .i64 a) = .int .i64 b) : a = b := by injection h
/-- The same entries but for one value, or one entry more. -/
theorem says_push {es : Array MapEntry} {f : Int → Option Pen} (h : saysK es f) {k : Int} (hk : ∀ x ∈ es.toList, x.key ≠ .int .i64 k) (p : Pen) (b : Nat) : saysK (es.push { key := .int .i64 k, val := pv p, born := b }) (updP f k p) := by
  intro j
  unfold updP
  by_cases hj : j = k
  · subst hj
    simp only [if_true]
    exact ⟨{ key := .int .i64 j, val := pv p, born := b }, by simp, rfl, rfl⟩
  · simp only [if_neg hj]
    have hjk := h j
    cases hf : f j with
    | none =>
      rw [hf] at hjk
      intro x hx
      simp only [Array.toList_push, List.mem_append, List.mem_singleton] at hx
      rcases hx with hx | rfl
      · exact hjk x hx
      · exact fun e => hj (key_inj e).symm
    | some q =>
      rw [hf] at hjk
      obtain ⟨x, hx, h1, h2⟩ := hjk
      exact ⟨x, by simp [Array.mem_toList_iff.1 hx], h1, h2⟩
theorem says_modify {es : Array MapEntry} {c : Nat} {f : Int → Option Pen} (h : saysK es f) (hs : Stamped es c) {k : Int} {j : Nat} {e : MapEntry} (hj : es[j]? = some e) (he : e.key = .int .i64 k) (p : Pen) (b : Nat) : saysK (es.modify j fun _ => { key := .int .i64 k, val := pv p, born := b }) (updP f k p) := by
  have hnd : ∀ i e', es[i]? = some e' → i ≠ j → e'.key ≠ .int .i64 k := by
    intro i e' hi hij hk
    have h3 := hs.2.2
    have h1 : (es.toList.map (·.key))[i]? = some (.int .i64 k) := by simp [hi, hk]
    have h2 : (es.toList.map (·.key))[j]? = some (.int .i64 k) := by simp [hj, he]
    have hl1 : i < (es.toList.map (·.key)).length := (List.getElem?_eq_some_iff.1 h1).1
    exact hij ((List.getElem?_inj hl1 h3).1 (h1.trans h2.symm))
  intro i
  unfold updP
  by_cases hi : i = k
  · subst hi
    simp only [if_true]
    refine ⟨{ key := .int .i64 i, val := pv p, born := b }, ?_, rfl, rfl⟩
    rw [Array.mem_toList_iff, Array.mem_iff_getElem?]
    exact ⟨j, by simp [Array.getElem?_modify, hj]⟩
  · simp only [if_neg hi]
    have hjk := h i
    cases hf : f i with
    | none =>
      rw [hf] at hjk
      intro x hx
      rw [Array.mem_toList_iff, Array.mem_iff_getElem?] at hx
      obtain ⟨m, hm⟩ := hx
      rw [Array.getElem?_modify] at hm
      by_cases hjm : j = m
      · subst hjm
        rw [if_pos rfl, hj] at hm
        simp only [Option.map_some, Option.some.injEq] at hm
        subst hm
        exact fun e => hi (key_inj e).symm
      · rw [if_neg hjm] at hm
        exact hjk x (Array.mem_toList_iff.2 (Array.mem_of_getElem? hm))
    | some q =>
      rw [hf] at hjk
      obtain ⟨x, hx, h1, h2⟩ := hjk
      rw [Array.mem_toList_iff, Array.mem_iff_getElem?] at hx
      obtain ⟨m, hm⟩ := hx
      have hjm : ¬ j = m := by
        rintro rfl
        rw [hj] at hm
        injection hm with hm
        subst hm
        rw [he] at h1
        exact hi (key_inj h1).symm
      exact ⟨x, by rw [Array.mem_toList_iff, Array.mem_iff_getElem?]; exact ⟨m, by rw [Array.getElem?_modify, if_neg hjm]; exact hm⟩, h1, h2⟩
section
variable {P : Program} {mt kt et : TypeId}
/-- 'm[k] = pen'. -/
theorem run_updP (hm : P.underlying mt = some (.map kt et)) (hd : P.underlying kt = some (.int .i64)) {w : World} {r : Nat} {f : Int → Option Pen} (h : MapP w r f) (k : Int) (p : Pen) :
    ∃ o, (Instr.mapUpdate mt (.map (some r)) (.int .i64 k) (pv p)).run P w = .ok () (setMap w r o) ∧ MapP (setMap w r o) r (updP f k p) := by
  obtain ⟨es, c, hb, hs, hks, hf⟩ := h
  rcases findNow_spec (key_i64 k) es.toList 0 hks with ⟨h1, h2⟩ | ⟨j, e, h1, h2, h3⟩
  · refine ⟨.map (es.push { key := .int .i64 k, val := pv p, born := c }) (c + 1), ?_, _, _, (heap_set hb).1, stamped_push hs h2, ?_, says_push hf h2 p c⟩
    · simp [Instr.mapUpdate, run_underlying hm, MapKept.run_getObj_map hb, MapKept.run_checkKey hd (key_i64 k), MapKept.run_findKey hd h1, MapKept.run_setObj_map _ hb, Result.andThen, setMap]
    · intro x hx
      simp only [Array.toList_push, List.mem_append, List.mem_singleton] at hx
      rcases hx with hx | rfl
      · exact hks x hx
      · exact key_i64 k
  · have hj : es[j]? = some e := by simpa using h2
    have em : (es.modify j fun e => { e with key := .int .i64 k, val := pv p }) = es.modify j fun _ => { key := .int .i64 k, val := pv p, born := e.born } := by
      apply Array.ext_getElem?
      intro i
      simp only [Array.getElem?_modify]
      by_cases hij : j = i
      · subst hij
        simp [hj]
      · simp [hij]
    have hkey : ∀ e', es[j]? = some e' → ({ e' with key := .int .i64 k, val := pv p } : MapEntry).key = e'.key := fun e' he' => by rw [hj] at he'; cases he'; exact h3.symm
    refine ⟨.map (es.modify j fun e => { e with key := .int .i64 k, val := pv p }) c, ?_, _, _, (heap_set hb).1, stamped_modify hs _ _ (fun _ _ => rfl) (fun e' _ he' => hkey e' he'), isKey_modify hks _ _ hkey, ?_⟩
    · simp [Instr.mapUpdate, run_underlying hm, MapKept.run_getObj_map hb, MapKept.run_checkKey hd (key_i64 k), MapKept.run_findKey hd h1, hj, h3, MapKept.run_keyThatStays (key_i64 k), MapKept.run_setObj_map _ hb, Result.andThen, setMap]
    · rw [em]
      exact says_modify hf hs hj h3 p e.born
/-- 'm[k]' read. -/
theorem run_lookP (hm : P.underlying mt = some (.map kt et)) (hd : P.underlying kt = some (.int .i64)) {z : Value} (hz : ∀ w, (zeroValue et).run P w = .ok z w) {w : World} {r : Nat} {f : Int → Option Pen} (h : MapP w r f) (k : Int) (ok : Bool) :
    (Instr.lookup mt (.map (some r)) (.int .i64 k) ok).run P w = .ok (if ok then .tuple #[((f k).map pv).getD z, .bool (f k).isSome] else ((f k).map pv).getD z) w := by
  obtain ⟨es, c, hb, hs, hks, hf⟩ := h
  have hfk := hf k
  rcases findNow_spec (key_i64 k) es.toList 0 hks with ⟨h1, h2⟩ | ⟨j, e, h1, h2, h3⟩
  · have e0 : f k = none := by
      cases hq : f k with
      | none => rfl
      | some p =>
        rw [hq] at hfk
        obtain ⟨x, hx, hk, -⟩ := hfk
        exact absurd hk (h2 x hx)
    simp [Instr.lookup, run_underlying hm, MapKept.run_getObj_map hb, MapKept.run_checkKey hd (key_i64 k), MapKept.run_findKey hd h1, Result.andThen, hz, e0]
  · have hj : es[j]? = some e := by simpa using h2
    cases hq : f k with
    | none =>
      rw [hq] at hfk
      exact absurd h3 (hfk e (Array.mem_toList_iff.2 (Array.mem_of_getElem? hj)))
    | some p =>
      rw [hq] at hfk
      obtain ⟨x, hx, hk, hv⟩ := hfk
      have hxe : x = e := by
        rw [Array.mem_toList_iff, Array.mem_iff_getElem?] at hx
        obtain ⟨m, hm'⟩ := hx
        have g1 : (es.toList.map (·.key))[m]? = some (.int .i64 k) := by simp [hm', hk]
        have g2 : (es.toList.map (·.key))[j]? = some (.int .i64 k) := by simp [hj, h3]
        have hl1 : m < (es.toList.map (·.key)).length := (List.getElem?_eq_some_iff.1 g1).1
        have := (List.getElem?_inj hl1 hs.2.2).1 (g1.trans g2.symm)
        subst this
        rw [hj] at hm'
        injection hm' with hm'
        exact hm'.symm
      subst hxe
      simp [Instr.lookup, run_underlying hm, MapKept.run_getObj_map hb, MapKept.run_checkKey hd (key_i64 k), MapKept.run_findKey hd h1, Result.andThen, hv]
/-- An entry is there for the key, whatever it holds. -/
def MapE (w : World) (r : Nat) (f : Int → Option Pen) (k b : Int) : Prop := ∃ (es : Array MapEntry) (c j : Nat) (e : MapEntry), w.heap[r]? = some (.map es c) ∧ Stamped es c ∧ (∀ x ∈ es.toList, IsKey (.int .i64) x.key) ∧ es[j]? = some e ∧ e.key = .int .i64 k ∧ (e.born : Int) = b ∧
  ∀ i : Int, i ≠ k → match f i with | none => ∀ x ∈ es.toList, x.key ≠ .int .i64 i | some p => ∃ x ∈ es.toList, x.key = .int .i64 i ∧ x.val = pv p
theorem run_entryP (hm : P.underlying mt = some (.map kt et)) (hd : P.underlying kt = some (.int .i64)) {z : Value} (hz : ∀ w, (zeroValue et).run P w = .ok z w) {w : World} {r : Nat} {f : Int → Option Pen} (h : MapP w r f) (k : Int) :
    ∃ o v b, (Instr.mapEntry mt (.map (some r)) (.int .i64 k)).run P w = .ok (.tuple #[v, .int .i64 b]) (setMap w r o) ∧ MapE (setMap w r o) r f k b := by
  obtain ⟨es, c, hb, hs, hks, hf⟩ := h
  rcases findNow_spec (key_i64 k) es.toList 0 hks with ⟨h1, h2⟩ | ⟨j, e, h1, h2, h3⟩
  · refine ⟨.map (es.push { key := .int .i64 k, val := z, born := c }) (c + 1), z, c, ?_, _, _, es.size, { key := .int .i64 k, val := z, born := c }, (heap_set hb).1, stamped_push hs h2, ?_, by simp, rfl, rfl, ?_⟩
    · simp [Instr.mapEntry, run_underlying hm, MapKept.run_getObj_map hb, MapKept.run_checkKey hd (key_i64 k), MapKept.run_findKey hd h1, MapKept.run_setObj_map _ hb, Result.andThen, setMap, hz, goInt]
    · intro x hx
      simp only [Array.toList_push, List.mem_append, List.mem_singleton] at hx
      rcases hx with hx | rfl
      · exact hks x hx
      · exact key_i64 k
    · intro i hi
      have hfi := hf i
      cases hq : f i with
      | none =>
        rw [hq] at hfi
        intro x hx
        simp only [Array.toList_push, List.mem_append, List.mem_singleton] at hx
        rcases hx with hx | rfl
        · exact hfi x hx
        · exact fun e => hi (key_inj e).symm
      | some q =>
        rw [hq] at hfi
        obtain ⟨x, hx, h1, h2⟩ := hfi
        exact ⟨x, by simp [Array.mem_toList_iff.1 hx], h1, h2⟩
  · have hj : es[j]? = some e := by simpa using h2
    have hkey : ∀ e', es[j]? = some e' → ({ e' with key := .int .i64 k } : MapEntry).key = e'.key := fun e' he' => by rw [hj] at he'; cases he'; exact h3.symm
    have em : (es.modify j fun e => { e with key := .int .i64 k }) = es := by
      apply Array.ext_getElem?
      intro i
      simp only [Array.getElem?_modify]
      by_cases hij : j = i
      · subst hij
        simp [hj, ← h3]
      · simp [hij]
    refine ⟨.map (es.modify j fun e => { e with key := .int .i64 k }) c, e.val, e.born, ?_, _, _, j, e, (heap_set hb).1, by rw [em]; exact hs, by rw [em]; exact hks, by rw [em]; exact hj, h3, rfl, ?_⟩
    · simp [Instr.mapEntry, run_underlying hm, MapKept.run_getObj_map hb, MapKept.run_checkKey hd (key_i64 k), MapKept.run_findKey hd h1, hj, h3, MapKept.run_keyThatStays (key_i64 k), MapKept.run_setObj_map _ hb, Result.andThen, setMap, goInt]
    · rw [em]
      exact fun i _ => hf i
theorem run_storeP {w : World} {r : Nat} {f : Int → Option Pen} {k b : Int} (h : MapE w r f k b) (p : Pen) :
    ∃ o, (Instr.entryStore mt (.map (some r)) (.int .i64 b) (pv p)).run P w = .ok () (setMap w r o) ∧ MapP (setMap w r o) r (updP f k p) := by
  obtain ⟨es, c, j, e, hb, hs, hks, hj, hk, hbn, hf⟩ := h
  have hfi : es.findIdx? (fun e => (e.born : Int) == b) = some j := by
    rw [Array.findIdx?_eq_some_iff_getElem]
    have hlt : j < es.size := (Array.getElem?_eq_some_iff.1 hj).1
    have hje : es[j] = e := (Array.getElem?_eq_some_iff.1 hj).2
    refine ⟨hlt, by simp [hje, hbn], fun i hi => ?_⟩
    have hli : i < es.size := by omega
    simp only [Bool.not_eq_true, beq_eq_false_iff_ne]
    intro hq
    have g1 : (es.toList.map (·.born))[i]? = some e.born := by
      simp only [List.getElem?_map, Array.getElem?_toList]
      rw [Array.getElem?_eq_getElem hli]
      simp only [Option.map_some, Option.some.injEq]
      omega
    have g2 : (es.toList.map (·.born))[j]? = some e.born := by simp [hj]
    have hl1 : i < (es.toList.map (·.born)).length := (List.getElem?_eq_some_iff.1 g1).1
    have := (List.getElem?_inj hl1 hs.2.1).1 (g1.trans g2.symm)
    omega
  have em : (es.modify j fun e => { e with val := pv p }) = es.modify j fun _ => { key := .int .i64 k, val := pv p, born := e.born } := by
    apply Array.ext_getElem?
    intro i
    simp only [Array.getElem?_modify]
    by_cases hij : j = i
    · subst hij
      simp [hj, hk]
    · simp [hij]
  refine ⟨.map (es.modify j fun e => { e with val := pv p }) c, ?_, _, _, (heap_set hb).1, stamped_modify hs _ _ (fun _ _ => rfl) (fun _ _ _ => rfl), isKey_modify hks _ _ (fun _ _ => rfl), ?_⟩
  · simp [Instr.entryStore, MapKept.run_getObj_map hb, Result.andThen, asInt, asIntOf, hfi, MapKept.run_setObj_map _ hb, setMap]
  · rw [em]
    intro i
    unfold updP
    by_cases hi : i = k
    · subst hi
      simp only [if_true]
      refine ⟨{ key := .int .i64 i, val := pv p, born := e.born }, ?_, rfl, rfl⟩
      rw [Array.mem_toList_iff, Array.mem_iff_getElem?]
      exact ⟨j, by simp [Array.getElem?_modify, hj]⟩
    · simp only [if_neg hi]
      have hjk := hf i hi
      cases hq : f i with
      | none =>
        rw [hq] at hjk
        intro x hx
        rw [Array.mem_toList_iff, Array.mem_iff_getElem?] at hx
        obtain ⟨m, hm⟩ := hx
        rw [Array.getElem?_modify] at hm
        by_cases hjm : j = m
        · subst hjm
          rw [if_pos rfl, hj] at hm
          simp only [Option.map_some, Option.some.injEq] at hm
          subst hm
          exact fun e => hi (key_inj e).symm
        · rw [if_neg hjm] at hm
          exact hjk x (Array.mem_toList_iff.2 (Array.mem_of_getElem? hm))
      | some q =>
        rw [hq] at hjk
        obtain ⟨x, hx, h1, h2⟩ := hjk
        rw [Array.mem_toList_iff, Array.mem_iff_getElem?] at hx
        obtain ⟨m, hm⟩ := hx
        have hjm : ¬ j = m := by
          rintro rfl
          rw [hj] at hm
          injection hm with hm
          subst hm
          rw [hk] at h1
          exact hi (key_inj h1).symm
        exact ⟨x, by rw [Array.mem_toList_iff, Array.mem_iff_getElem?]; exact ⟨m, by rw [Array.getElem?_modify, if_neg hjm]; exact hm⟩, h1, h2⟩
section
variable {ops : Array Oper} {rest : List Oper} {o : Oper} {a : Act} {Q : Exit → Act → World → Prop}
theorem wpList_updP (w : World) (hg : o.guard = none) (m x v : Operand) (hop : o.op = Op.mapUpdate mt m x v ∨ o.op = Op.insert mt m x v) (hm : P.underlying mt = some (.map kt et)) (hd : P.underlying kt = some (.int .i64)) (r : Nat) (f : Int → Option Pen) (h : MapP w r f) (k : Int) (p : Pen)
    (h1 : a.eval m = .map (some r)) (h2 : a.eval x = .int .i64 k) (h3 : a.eval v = pv p) (hK : ∀ o', MapP (setMap w r o') r (updP f k p) → wpList P ops Q rest (a.put o.dst undef) (setMap w r o')) : wpList P ops Q (o :: rest) a w := by
  refine wpList_plain hg fun K' hK' => ?_
  obtain ⟨o', hrun, r1⟩ := run_updP hm hd h k p
  unfold Oper.wp
  rcases hop with hop | hop
  · simp [execOp, hop, h1, h2, h3, hrun, Result.andThen]
    exact hK' _ _ (hK o' r1)
  · simp [execOp, hop, h1, h2, h3, hrun, Result.andThen]
    exact hK' _ _ (hK o' r1)
theorem wpList_entryP (w : World) (hg : o.guard = none) (m x : Operand) (hop : o.op = Op.mapEntry mt m x) (hm : P.underlying mt = some (.map kt et)) (hd : P.underlying kt = some (.int .i64)) {z : Value} (hz : ∀ w, (zeroValue et).run P w = .ok z w) (r : Nat) (f : Int → Option Pen) (h : MapP w r f) (k : Int)
    (h1 : a.eval m = .map (some r)) (h2 : a.eval x = .int .i64 k) (hK : ∀ o' v b, MapE (setMap w r o') r f k b → wpList P ops Q rest (a.put o.dst (.tuple #[v, .int .i64 b])) (setMap w r o')) : wpList P ops Q (o :: rest) a w := by
  refine wpList_plain hg fun K' hK' => ?_
  obtain ⟨o', v, b, hrun, r1⟩ := run_entryP hm hd hz h k
  unfold Oper.wp
  simp [execOp, hop, h1, h2, hrun, Result.andThen]
  exact hK' _ _ (hK o' v b r1)
theorem wpList_storeP (w : World) (hg : o.guard = none) (m x v : Operand) (hop : o.op = Op.entryStore mt m x v) (r : Nat) (f : Int → Option Pen) (k b : Int) (h : MapE w r f k b) (p : Pen)
    (h1 : a.eval m = .map (some r)) (h2 : a.eval x = .int .i64 b) (h3 : a.eval v = pv p) (hK : ∀ o', MapP (setMap w r o') r (updP f k p) → wpList P ops Q rest (a.put o.dst undef) (setMap w r o')) : wpList P ops Q (o :: rest) a w := by
  refine wpList_plain hg fun K' hK' => ?_
  obtain ⟨o', hrun, r1⟩ := run_storeP (P := P) (mt := mt) h p
  unfold Oper.wp
  simp [execOp, hop, h1, h2, h3, hrun, Result.andThen]
  exact hK' _ _ (hK o' r1)
theorem wpList_updQ (w : World) (hg : o.guard = none) (m x v : Operand) (hop : o.op = Op.mapUpdate mt m x v ∨ o.op = Op.insert mt m x v) (hm : P.underlying mt = some (.map kt et)) (hd : P.underlying kt = some (.int .i64)) (r : Nat) (f : Int → Option Pen) (h : MapP w r f) (k n q ck cn : Int)
    (h1 : a.eval m = .map (some r)) (h2 : a.eval x = .int .i64 k) (h3 : a.eval v = .agg #[.int .i64 39, .int .i64 n, .int .i64 q, .int .i64 ck, .int .i64 cn, .string ⟨#[]⟩]) (hK : ∀ o', MapP (setMap w r o') r (updP f k ⟨n, q, ck, cn⟩) → wpList P ops Q rest (a.put o.dst undef) (setMap w r o')) : wpList P ops Q (o :: rest) a w :=
  wpList_updP w hg m x v hop hm hd r f h k ⟨n, q, ck, cn⟩ h1 h2 h3 hK
theorem wpList_storeQ (w : World) (hg : o.guard = none) (m x v : Operand) (hop : o.op = Op.entryStore mt m x v) (r : Nat) (f : Int → Option Pen) (k b : Int) (h : MapE w r f k b) (n q ck cn : Int)
    (h1 : a.eval m = .map (some r)) (h2 : a.eval x = .int .i64 b) (h3 : a.eval v = .agg #[.int .i64 39, .int .i64 n, .int .i64 q, .int .i64 ck, .int .i64 cn, .string ⟨#[]⟩]) (hK : ∀ o', MapP (setMap w r o') r (updP f k ⟨n, q, ck, cn⟩) → wpList P ops Q rest (a.put o.dst undef) (setMap w r o')) : wpList P ops Q (o :: rest) a w :=
  wpList_storeP w hg m x v hop r f k b h ⟨n, q, ck, cn⟩ h1 h2 h3 hK
end
end
end Go.Proofs.YtobbphkfdhjmdaaDoor

namespace Go.Proofs.YtobbphkfdhjmdaaDoor
open Go.RowKit
/-- What a round keeps: what lay below n, whatever is no cells, and the iterator's own block. -/
structure Kept (n C : Nat) (W W' : World) : Prop where
  below : Below n W W'
  others : KeepsOthers W W'
  own : ∀ o, W.heap[C]? = some o → W'.heap[C]? = some o
theorem Kept.trans {n C : Nat} {A B D : World} (h : Kept n C A B) (k : Kept n C B D) : Kept n C A D :=
  ⟨h.below.trans k.below, h.others.trans k.others, fun o e => k.own o (h.own o e)⟩
theorem Kept.put {n C : Nat} {W : World} {l : Nat} {o : Obj} (o' : Obj) (hn : n ≤ l) (hC : C ≠ l) (hl : W.heap[l]? = some o) : (Below n W (W.putObj l o')) ∧ ∀ q, W.heap[C]? = some q → (W.putObj l o').heap[C]? = some q := by
  have hs := (Array.getElem?_eq_some_iff.1 hl).1
  exact ⟨(Below.refl n W).grown (grownBy_putObj' W l o') (by omega) (fun k e => by cases e; exact hn), fun q e => (World.putObj_heap_other hC).trans e⟩
theorem Grows.by_none {w w' : World} (g : Grows w w') : w.grownBy w' none := by
  have b := g.below
  exact ⟨b.os, b.tape, b.output, b.size, fun k hk _ => b.block k hk⟩
theorem boxed_grows {W W' : World} {C : Nat} {t : TypeId} {v : Value} (h : Boxed W C t v) (g : Grows W W') : Boxed W' C t v := (g.below.block C h.lt).trans h
/-- The caller's invariant abides growth, and a store into the cell C. -/
def Abide {β : Type} (C : Nat) (J : β → World → Prop) : Prop := (∀ s W W', J s W → Grows W W' → J s W') ∧ ∀ s W v, J s W → J s (W.setCell ⟨C, 0, none⟩ v)
/-- The contract of an iterator that gives all of xs, in whatever later world, at whatever loop. -/
def Gives {α : Type} (n : Nat) (P : Program) (g : Nat) (lb : Array Value) (encs : α → Array Value) (B C : Nat) (xs : List α) (w : World) : Prop :=
  ∀ (l : Nat) (J : List α → World → Prop) (W : World), Below w.heap.size w W → Abide C J →
    (∀ pre x W1, J pre W1 → (∃ suf, xs = pre ++ x :: suf) → YieldAt Fence.wide (n - 1) P l (encs x) W1 fun e W' => e = .returned (.bool true) ∧ J (pre ++ [x]) W' ∧ Kept B C W1 W') →
    J [] W → CallsIn Fence.wide n P g (#[.func (.yield l) #[] #[]] ++ lb) W fun e W' => (∃ v, e = .returned v) ∧ J xs W'
/-- How a round's body is left. -/
def bodyEnd {α : Type} (B C : Nat) (I : List α → World → Prop) (xs : List α) (W : World) : Exit → Act → World → Prop
  | .normal, _, W' => Kept B C W W' ∧ I xs W'
  | _, _, _ => False
theorem wpIn_range {α : Type} {n : Nat} {P : Program} {g : Operand} {ps : Array Tmp} {assign body : Code} {Q : Exit → Act → World → Prop} {a : Act} {w : World} {gf : Nat} {lb : Array Value}
    (hg : a.eval g = .func (.func gf) #[] lb) (eg : ∀ args w, (callFunc gf args).run P w = .ok (.enter gf args) w)
    {encs : α → Array Value} {B C : Nat} {xs : List α} (hseq : Gives (n - 1) P gf lb encs B C xs w) (hB : B ≤ w.heap.size) (hC : C < w.heap.size) (hps : ∀ x, (encs x).size = ps.size)
    (I : List α → World → Prop) (hI : OwnFrom w.heap.size I) (hIc : ∀ s W v, I s W → I s (W.setCell ⟨C, 0, none⟩ v)) (h0 : I [] w)
    (Ax : α → Act → World → Prop) (hAx : ∀ x, OwnFrom w.heap.size (Ax x))
    (hassign : ∀ (l : Nat) (pre : List α) (x : α) (W : World), I pre W →
      assign.wpIn (Fence.wide.inRound l) (n - 1 - 1) P (Exit.then (fun a' W' => Kept B C W W' ∧ I pre W' ∧ Ax x a' W') (fun _ _ _ => False)) { tmps := (ps.zip (encs x)).foldl (fun t (p, v) => t.setIfInBounds p v) a.tmps, defers := [] } W)
    (hbody : ∀ (l : Nat) (pre : List α) (x : α) (a' : Act) (W : World), I pre W → Ax x a' W → (∃ suf, xs = pre ++ x :: suf) → body.wpIn (Fence.wide.inRound l) (n - 1 - 1) P (bodyEnd B C I (pre ++ [x]) W) a' W)
    (hdone : ∀ (D : Nat) (W : World), w.heap.size ≤ D → I xs W → W.heap[D]? = some (.deferred (some [])) → Q .normal { a with defers := { target := .collected D, args := #[] } :: a.defers } W) :
    (Code.rangeFunc g ps assign body).wpIn Fence.wide n P Q a w := by
  refine wpIn_rangeFunc fun fn _ => ?_
  obtain ⟨rec, hrec⟩ : ∃ rec : LoopState → Loop, rec = fun st => { state := st, pending := none, fn, tmps := a.tmps, params := ps, assign, body, defers := w.heap.size } := ⟨_, rfl⟩
  obtain ⟨V, hV⟩ : ∃ V, (w.alloc (.deferred (some []))).alloc (.loop (rec .ready)) = V := ⟨_, rfl⟩
  have hVL : V.heap[w.heap.size + 1]? = some (.loop (rec .ready)) := by
    rw [← hV]
    have := World.alloc_heap_new (w.alloc (.deferred (some []))) (.loop (rec .ready))
    rwa [World.size_alloc] at this
  have hVD : V.heap[w.heap.size]? = some (.deferred (some [])) := by
    rw [← hV]
    exact (Below.heap_alloc _ _ _ (by simp)).trans (World.alloc_heap_new w _)
  have hVI : I [] V := by rw [← hV]; exact hI.alloc _ (hI.alloc _ h0)
  have hVB : Below w.heap.size w V := by
    rw [← hV]
    exact ((Below.refl _ w).alloc (Nat.le_refl _) _).alloc (by simp) _
  refine ⟨w.heap.size + 1, [{ target := .collected w.heap.size, args := #[] }], V, { target := .fn (.func gf) lb, args := #[.func (.yield (w.heap.size + 1)) #[] #[]] }, V, gf, #[.func (.yield (w.heap.size + 1)) #[] #[]] ++ lb, V, ?_, ?_, fun _ _ => trivial, ?_, (fun h => by cases h), ?_⟩
  · rw [← hV, hrec]
    exact run_enterLoop_outer _ _ _ _ _
  · simp only [resolve, hg]
    simp [go_sem]
  · simp [invoke, go_sem, eg]
  · refine (hseq (w.heap.size + 1) (fun pre W => I pre W ∧ W.heap[w.heap.size + 1]? = some (.loop (rec .ready)) ∧ W.heap[w.heap.size]? = some (.deferred (some []))) V hVB ⟨?_, ?_⟩ ?_ ⟨hVI, hVL, hVD⟩).mono ?_
    · rintro s W W' ⟨h1, h2, h3⟩ hgr
      have hb := hgr.below
      exact ⟨hI s W W' none h1 hgr.by_none (fun r e => by cases e), (hb.block _ (Array.getElem?_eq_some_iff.1 h2).1).trans h2, (hb.block _ (Array.getElem?_eq_some_iff.1 h3).1).trans h3⟩
    · rintro s W v ⟨h1, h2, h3⟩
      have hk := KeepsOthers.setCell W ⟨C, 0, none⟩ v
      exact ⟨hIc s W v h1, hk.same _ _ h2 rfl, hk.same _ _ h3 rfl⟩
    · rintro pre x W0 ⟨hi0, hl0, hd0⟩ hx
      have hy := run_yield (P := P) (args := encs x) hl0 (by rw [hrec]; exact hps x)
      rw [hrec] at hy
      refine ⟨fn, _, assign, body, hy, roundIn_of_wpIn trivial (wpIn_mono (hassign _ pre x W0 hi0) ?_)⟩
      rintro e a' W hp
      cases e with
      | normal =>
        obtain ⟨k0, hi, hax⟩ := hp
        have hl := k0.others.same _ _ hl0 rfl
        have hd := k0.others.same _ _ hd0 rfl
        have hlt := (Array.getElem?_eq_some_iff.1 hl).1
        refine ⟨_, run_beginRound hl (by rw [hrec]), ?_⟩
        obtain ⟨b1, b2⟩ := Kept.put (n := B) (C := C) (.loop { rec .ready with state := .busy }) (by omega) (by omega) hl
        have hl2 := World.putObj_heap_same (w := W) (o := .loop { rec .ready with state := .busy }) hlt
        have hd2 : (W.putObj (w.heap.size + 1) (.loop { rec .ready with state := .busy })).heap[w.heap.size]? = some (.deferred (some [])) := (World.putObj_heap_other (by omega)).trans hd
        have b3 : ∀ k o, W.heap[k]? = some o → o.isCells = false → k ≠ w.heap.size + 1 → (W.putObj (w.heap.size + 1) (.loop { rec .ready with state := .busy })).heap[k]? = some o := fun k o e _ hne => (World.putObj_heap_other hne).trans e
        refine wpIn_mono (hbody _ pre x _ _ (hI.putObj _ hi (by omega) hl rfl) ((hAx x).putObj _ hax (by omega) hl rfl) hx) ?_
        rintro e a3 W3 hp
        cases e with
        | normal =>
          obtain ⟨hk, hi3⟩ := hp
          have hl3 := hk.others.same _ _ hl2 rfl
          have hd3 := hk.others.same _ _ hd2 rfl
          have hr := run_endRound (P := P) none hl3
          rw [hrec] at hr
          obtain ⟨c1, c2⟩ := Kept.put (n := B) (C := C) (.loop (rec .ready)) (by omega) (by omega) hl3
          rw [hrec] at c1 c2 hl3
          have hl4 := World.putObj_heap_same (w := W3) (r := w.heap.size + 1) (o := .loop (rec .ready)) (Array.getElem?_eq_some_iff.1 hl3).1
          refine ⟨_, _, hr, rfl, ⟨hI.putObj _ hi3 (by omega) hl3 rfl, by rw [hrec] at hl4 ⊢; exact hl4, (World.putObj_heap_other (by omega)).trans hd3⟩, k0.trans ⟨?_, ?_, ?_⟩⟩
          · exact (b1.trans hk.below).trans c1
          · refine ⟨?_, fun k o e ho => ?_⟩
            · have := hk.others.size
              simp only [World.putObj_size] at this ⊢
              exact this
            · by_cases hkl : k = w.heap.size + 1
              · subst hkl
                rw [hl] at e
                injection e with e
                subst e
                rw [hrec] at hl4 ⊢
                exact hl4
              · exact (World.putObj_heap_other hkl).trans (hk.others.same _ _ (b3 k o e ho hkl) ho)
          · exact fun o e => c2 o (hk.own o (b2 o e))
        | ret => exact hp.elim
        | exit id => exact hp.elim
        | goto t => exact hp.elim
        | panic ch => exact hp.elim
        | outgrown => exact hp.elim
      | ret => exact hp.elim
      | exit id => exact hp.elim
      | goto t => exact hp.elim
      | panic ch => exact hp.elim
      | outgrown => exact hp.elim
    · rintro e W2 ⟨⟨v, rfl⟩, hi, hl, hd⟩
      refine ⟨none, _, by have := run_endLoop (P := P) hl (by rw [hrec]; simp); rw [hrec] at this; exact this, hdone _ _ (Nat.le_refl _) (hI.putObj _ hi (by omega) hl rfl) ((World.putObj_heap_other (by omega)).trans hd)⟩
end Go.Proofs.YtobbphkfdhjmdaaDoor

namespace Go.Proofs.YtobbphkfdhjmdaaDoor
open Go.RowKit
/-- An action's fields. -/
structure ActV where
  kd : Int
  n : Int
  m : Int
  ck : Int
  cn : Int
  s : ByteArray
def actD : ActV := ⟨0, 0, 0, 0, 0, ⟨#[]⟩⟩
def actP (p : Pen) : ActV := ⟨39, p.n, p.m, p.ck, p.cn, ⟨#[]⟩⟩
/-- Two actions are alike. -/
def sameA (x y : ActV) : Bool := (x.kd == y.kd && (x.n == y.n && (x.m == y.m && (x.ck == y.ck && (x.cn == y.cn && x.s.toList == y.s.toList)))))
def ActsIn (w : World) (a : Option Addr) (l : List ActV) : Prop := l ≠ [] → ∃ b off, a = some ⟨b, off, none⟩ ∧ b < w.heap.size ∧ ∀ i, i < l.length →
  w.cell? ⟨b, off + i * 6, none⟩ = some (.int .i64 (l[i]?.getD actD).kd) ∧ w.cell? ⟨b, off + i * 6 + 1, none⟩ = some (.int .i64 (l[i]?.getD actD).n) ∧ w.cell? ⟨b, off + i * 6 + 2, none⟩ = some (.int .i64 (l[i]?.getD actD).m) ∧
  w.cell? ⟨b, off + i * 6 + 3, none⟩ = some (.int .i64 (l[i]?.getD actD).ck) ∧ w.cell? ⟨b, off + i * 6 + 4, none⟩ = some (.int .i64 (l[i]?.getD actD).cn) ∧ w.cell? ⟨b, off + i * 6 + 5, none⟩ = some (.string (l[i]?.getD actD).s)
def ActsAt (w : World) (v : Value) (l : List ActV) : Prop := ∃ a cap, v = .slice a l.length cap ∧ l.length ≤ cap ∧ ActsIn w a l
theorem ActsIn.grows {w w' : World} {a : Option Addr} {l : List ActV} (h : ActsIn w a l) (g : Grows w w') : ActsIn w' a l := by
  intro hl
  obtain ⟨b, off, ha, hb, hc⟩ := h hl
  refine ⟨b, off, ha, Nat.lt_of_lt_of_le hb g.size, fun i hi => ?_⟩
  obtain ⟨h0, h1, h2, h3, h4, h5⟩ := hc i hi
  exact ⟨(g.cellOf hb).trans h0, (g.cellOf hb).trans h1, (g.cellOf hb).trans h2, (g.cellOf hb).trans h3, (g.cellOf hb).trans h4, (g.cellOf hb).trans h5⟩
theorem ActsAt.grows {w w' : World} {v : Value} {l : List ActV} (h : ActsAt w v l) (g : Grows w w') : ActsAt w' v l := by
  obtain ⟨a, cap, hv, hc, hi⟩ := h
  exact ⟨a, cap, hv, hc, hi.grows g⟩
theorem ActsAt.nil (w : World) : ActsAt w (.slice none 0 0) [] := ⟨none, 0, rfl, Nat.le_refl _, fun h => absurd rfl h⟩
end Go.Proofs.YtobbphkfdhjmdaaDoor

namespace Go.Proofs.YtobbphkfdhjmdaaDoor
open Go.RowKit
theorem IntsAt.kept {w w' : World} {row : Option Nat} {s : Value} {p : List Int} (h : IntsAt w s p) (hg : w.grownBy w' row) (hd : ∀ b, s.ownBlock = some b → row ≠ some b) : IntsAt w' s p := by
  obtain ⟨a, cap, rfl, hc, hi⟩ := h
  refine ⟨a, cap, rfl, hc, fun hne => ?_⟩
  obtain ⟨b, off, rfl, hb, hcell⟩ := hi hne
  have hblk : w'.heap[b]? = w.heap[b]? := hg.block b hb (fun e => hd b rfl e.symm)
  refine ⟨b, off, rfl, Nat.lt_of_lt_of_le hb hg.size, fun i hi => ?_⟩
  rw [World.cell?_of_block (w := w) hblk]
  exact hcell i hi
/-- The row v holds the slices vs, which read as r. -/
def OwnRow (base : Nat) (t : TypeId) (w : World) (v : Value) (r : List (List Int)) (vs : List Value) : Prop :=
  w.ownsRow base t 1 v r.length vs ∧ ∀ i, i < r.length → ∃ s, vs[i]? = some s ∧ IntsAt w s (r[i]?.getD []) ∧ ∀ b, s.ownBlock = some b → b < w.heap.size ∧ v.ownBlock ≠ some b
theorem OwnRow.nil (base : Nat) (t : TypeId) (w : World) : OwnRow base t w (.slice none 0 0) [] [] := ⟨World.ownsRow_nil _ _ _ _, fun i hi => by simp at hi⟩
theorem OwnRow.snoc {base : Nat} {t : TypeId} {w w1 : World} {v v' s : Value} {vs : List Value} {r : List (List Int)} {p : List Int} {o : Obj} (h : OwnRow base t w v r vs) (hs : IntsAt w s p) (hd : ∀ b, s.ownBlock = some b → b < w.heap.size ∧ v.ownBlock ≠ some b)
    (hown : w1.ownsRow base t 1 v' (r.length + 1) (vs ++ [s])) (hg : (w.alloc o).grownBy w1 v.ownBlock) (hat : v'.ownBlock = v.ownBlock ∨ v'.ownBlock = some (w.heap.size + 1)) : OwnRow base t w1 v' (r ++ [p]) (vs ++ [s]) := by
  obtain ⟨h1, h2⟩ := h
  have hlen : vs.length = r.length := by simpa using h1.1
  have hsz := hg.size
  simp only [World.size_alloc] at hsz
  have key : ∀ (q : Value) (l : List Int), IntsAt w q l → (∀ b, q.ownBlock = some b → b < w.heap.size ∧ v.ownBlock ≠ some b) → IntsAt w1 q l ∧ ∀ b, q.ownBlock = some b → b < w1.heap.size ∧ v'.ownBlock ≠ some b := by
    intro q l hq hb
    refine ⟨(hq.grows ((Grows.refl w).alloc o)).kept hg (fun b e => (hb b e).2), fun b e => ?_⟩
    obtain ⟨k1, k2⟩ := hb b e
    refine ⟨by omega, ?_⟩
    rcases hat with hat | hat
    · rw [hat]; exact k2
    · rw [hat]
      intro e
      injection e with e
      omega
  refine ⟨by simpa using hown, fun i hi => ?_⟩
  simp only [List.length_append, List.length_singleton] at hi
  by_cases hir : i < r.length
  · obtain ⟨q, hq1, hq2, hq3⟩ := h2 i hir
    obtain ⟨k1, k2⟩ := key q _ hq2 hq3
    exact ⟨q, by rw [List.getElem?_append_left (by omega)]; exact hq1, by rw [List.getElem?_append_left hir]; exact k1, k2⟩
  · obtain rfl : i = r.length := by omega
    obtain ⟨k1, k2⟩ := key s _ hs hd
    exact ⟨s, by rw [← hlen]; simp, by simpa using k1, k2⟩
theorem OwnRow.at_ {base : Nat} {t : TypeId} {w : World} {v : Value} {r : List (List Int)} {vs : List Value} (h : OwnRow base t w v r vs) : RowAt w v r := by
  obtain ⟨⟨hl, h1⟩, h2⟩ := h
  rcases h1 with ⟨rfl, h3⟩ | ⟨g, cap, cur, rfl, hb, hh, hc, hm, hs, ht⟩
  · obtain rfl : r = [] := List.length_eq_zero_iff.1 h3
    exact RowAt.nil w
  · refine ⟨_, cap, rfl, hc, fun _ => ⟨g, 0, rfl, (Array.getElem?_eq_some_iff.1 hh).1, fun i hi => ?_⟩⟩
    obtain ⟨s, hs1, hs2, -⟩ := h2 i hi
    refine ⟨s, ?_, hs2⟩
    rw [Nat.zero_add, cell_of_row w g i cur t (0, 0) hh]
    have h4 : (cur.toList.take (r.length * 1))[i]? = vs[i]? := by rw [ht]
    rw [List.getElem?_take, if_pos (by omega), hs1] at h4
    simpa using h4
theorem OwnRow.grows {base : Nat} {t : TypeId} {w w' : World} {v : Value} {r : List (List Int)} {vs : List Value} (h : OwnRow base t w v r vs) (g : Grows w w') : OwnRow base t w' v r vs := by
  obtain ⟨⟨hl, h1⟩, h2⟩ := h
  refine ⟨⟨hl, ?_⟩, fun i hi => ?_⟩
  · rcases h1 with h1 | ⟨g', cap, cur, e, hb, hh, rest⟩
    · exact .inl h1
    · exact .inr ⟨g', cap, cur, e, hb, (g.below.block g' (Array.getElem?_eq_some_iff.1 hh).1).trans hh, rest⟩
  · obtain ⟨s, h3, h4, h5⟩ := h2 i hi
    exact ⟨s, h3, h4.grows g, fun b e => ⟨Nat.lt_of_lt_of_le (h5 b e).1 g.size, (h5 b e).2⟩⟩
end Go.Proofs.YtobbphkfdhjmdaaDoor

namespace Go.Proofs.YtobbphkfdhjmdaaDoor
/-- A color is valid. -/
def clOk (k n : Int) : Bool := decide ((k = 0 ∧ n = 0) ∨ (k = 1 ∧ 0 ≤ n ∧ n ≤ 255) ∨ (k = 2 ∧ 0 ≤ n ∧ n ≤ 16777215))
def clErr (x : Bool) : Int := if x then 0 else 130
@[simp] theorem clErr_t : clErr true = 0 := rfl
@[simp] theorem clErr_f : clErr false = 130 := rfl
theorem clOk_t {k n : Int} (h : (k = 0 ∧ n = 0) ∨ (k = 1 ∧ 0 ≤ n ∧ n ≤ 255) ∨ (k = 2 ∧ 0 ≤ n ∧ n ≤ 16777215)) : clOk k n = true := decide_eq_true h
theorem clOk_f {k n : Int} (h : ¬ ((k = 0 ∧ n = 0) ∨ (k = 1 ∧ 0 ≤ n ∧ n ≤ 255) ∨ (k = 2 ∧ 0 ≤ n ∧ n ≤ 16777215))) : clOk k n = false := decide_eq_false h
end Go.Proofs.YtobbphkfdhjmdaaDoor

namespace Go.Proofs.YtobbphkfdhjmdaaDoor
open Go.RowKit
def In64 (n : Int) : Prop := -9223372036854775808 ≤ n ∧ n ≤ 9223372036854775807
theorem w64 {n : Int} (h : In64 n) : wrap64 n = n := by unfold In64 at h; unfold wrap64; omega
theorem wrap_toNat (b : BitVec 64) : IntKind.i64.wrap (b.toNat : Int) = b.toInt := by
  rw [IntKind.wrap_i64, BitVec.toInt_eq_toNat_cond]
  have := b.isLt
  split <;> omega
theorem toInt_of {x : Int} (h : In64 x) : (BitVec.ofInt 64 x).toInt = x := by
  obtain ⟨h1, h2⟩ := h
  rw [BitVec.toInt_ofInt]
  show Int.bmod x 18446744073709551616 = x
  rw [Int.bmod_def]
  split <;> omega
theorem wrap64_toInt (x : Int) : wrap64 x = (BitVec.ofInt 64 x).toInt := by
  rw [BitVec.toInt_ofInt]
  show _ = Int.bmod x 18446744073709551616
  rw [Int.bmod_def]
  unfold wrap64
  split <;> omega
theorem ofInt_sub64 (x y : Int) : BitVec.ofInt 64 (x - y) = BitVec.ofInt 64 x - BitVec.ofInt 64 y := by
  rw [Int.sub_eq_add_neg, BitVec.ofInt_add, BitVec.ofInt_neg, BitVec.sub_eq_add_neg]
theorem and_eq (x y : Int) : bits .and .i64 x y = (BitVec.ofInt 64 x &&& BitVec.ofInt 64 y).toInt := wrap_toNat _
theorem or_eq (x y : Int) : bits .or .i64 x y = (BitVec.ofInt 64 x ||| BitVec.ofInt 64 y).toInt := wrap_toNat _
theorem xor_eq (x y : Int) : bits .xor .i64 x y = (BitVec.ofInt 64 x ^^^ BitVec.ofInt 64 y).toInt := wrap_toNat _
theorem andNot_eq (x y : Int) : bits .andNot .i64 x y = (BitVec.ofInt 64 x &&& ~~~BitVec.ofInt 64 y).toInt := wrap_toNat _
theorem of_toInt (b : BitVec 64) : BitVec.ofInt 64 b.toInt = b := BitVec.ofInt_toInt
theorem in64_toInt (b : BitVec 64) : In64 b.toInt := by
  have h1 := BitVec.two_mul_toInt_lt (x := b)
  have h2 := BitVec.le_two_mul_toInt (x := b)
  constructor <;> omega
theorem in64_bits (op : BinOp) (x y : Int) : In64 (bits op .i64 x y) := by
  unfold bits
  exact (wrap_toNat _).symm ▸ in64_toInt _
theorem ofInt_inj {x y : Int} (hx : In64 x) (hy : In64 y) (h : BitVec.ofInt 64 x = BitVec.ofInt 64 y) : x = y := by rw [← toInt_of hx, ← toInt_of hy, h]
theorem bv_split (b m : BitVec 64) : (b &&& ~~~m) + (b &&& m) = b := by
  rw [BitVec.add_eq_or_of_and_eq_zero]
  · ext i hi
    simp
    cases b[i] <;> simp
  · ext i hi
    simp
    intro _ h1 _
    exact h1
/-- &^ takes away what & finds. -/
theorem andNot_sub {a m : Int} (_ha : In64 a) : wrap64 (a - bits .and .i64 a m) = bits .andNot .i64 a m := by
  rw [wrap64_toInt, andNot_eq, and_eq]
  congr 1
  have h := bv_split (BitVec.ofInt 64 a) (BitVec.ofInt 64 m)
  have e : BitVec.ofInt 64 (a - (BitVec.ofInt 64 a &&& BitVec.ofInt 64 m).toInt) = BitVec.ofInt 64 a - (BitVec.ofInt 64 a &&& BitVec.ofInt 64 m) := by
    rw [ofInt_sub64, of_toInt]
  rw [e]
  generalize BitVec.ofInt 64 a &&& BitVec.ofInt 64 m = p at *
  have e2 : BitVec.ofInt 64 a - p = (BitVec.ofInt 64 a &&& ~~~BitVec.ofInt 64 m) + p - p := by rw [h]
  rw [e2]
  exact BitVec.add_sub_cancel ..
theorem lt_iff_mask {a : Int} (ha : In64 a) : bits .andNot .i64 a 255 = 0 ↔ 0 ≤ a ∧ a ≤ 255 := by
  rw [andNot_eq]
  have h255 : BitVec.ofInt 64 255 = 255#64 := rfl
  rw [h255]
  have key : (BitVec.ofInt 64 a &&& ~~~255#64) = 0#64 ↔ (BitVec.ofInt 64 a).toNat < 256 := by
    generalize BitVec.ofInt 64 a = b
    constructor
    · intro h
      have h2 := bv_split b 255#64
      rw [h, BitVec.zero_add] at h2
      rw [← h2, BitVec.toNat_and]
      exact Nat.lt_of_le_of_lt Nat.and_le_right (by decide)
    · intro h
      ext i hi
      by_cases h8 : i < 8
      · have : (255#64)[i] = true := by
          have : i = 0 ∨ i = 1 ∨ i = 2 ∨ i = 3 ∨ i = 4 ∨ i = 5 ∨ i = 6 ∨ i = 7 := by omega
          rcases this with rfl | rfl | rfl | rfl | rfl | rfl | rfl | rfl <;> (rw [BitVec.getElem_eq_testBit_toNat]; rfl)
        simp only [BitVec.getElem_and, BitVec.getElem_not, this, BitVec.getElem_zero, Bool.not_true, Bool.and_false]
      · have hb : b[i] = false := by
          rw [BitVec.getElem_eq_testBit_toNat]
          exact Nat.testBit_lt_two_pow (Nat.lt_of_lt_of_le h (Nat.pow_le_pow_right (n := 2) (by decide) (show 8 ≤ i by omega)))
        simp [hb]
  have hz : (BitVec.ofInt 64 a &&& ~~~255#64).toInt = 0 ↔ (BitVec.ofInt 64 a &&& ~~~255#64) = 0#64 := by
    constructor
    · intro h
      rw [← of_toInt (BitVec.ofInt 64 a &&& ~~~255#64), h]
      rfl
    · intro h; rw [h]; rfl
  rw [hz, key]
  have ht := toInt_of ha
  rw [BitVec.toInt_eq_toNat_cond] at ht
  have := (BitVec.ofInt 64 a).isLt
  obtain ⟨h1, h2⟩ := ha
  split at ht <;> omega
theorem mask_ne {a : Int} (ha : In64 a) : (bits .andNot .i64 a 255 != 0) = !decide (0 ≤ a ∧ a ≤ 255) := by
  by_cases h : 0 ≤ a ∧ a ≤ 255
  · rw [(lt_iff_mask ha).2 h]; simp [h]
  · have : bits .andNot .i64 a 255 ≠ 0 := fun e => h ((lt_iff_mask ha).1 e)
    simp [this, h]
theorem xor_16 {a : Int} (_ha : In64 a) : bits .xor .i64 a 16 = if bits .and .i64 a 16 = 0 then wrap64 (a + 16) else wrap64 (a - 16) := by
  have h16 : BitVec.ofInt 64 16 = 16#64 := rfl
  rw [xor_eq, and_eq, wrap64_toInt, wrap64_toInt, BitVec.ofInt_add, ofInt_sub64, h16]
  generalize BitVec.ofInt 64 a = b
  have hbit : ∀ i (hi : i < 64), (16#64)[i] = decide (i = 4) := by
    intro i hi
    rw [BitVec.getElem_eq_testBit_toNat]
    show Nat.testBit 16 i = _
    rw [show (16 : Nat) = 2 ^ 4 from rfl, Nat.testBit_two_pow]
    simp [eq_comm]
  cases h4 : b[4]
  · have hz : b &&& 16#64 = 0#64 := by
      ext i hi
      simp only [BitVec.getElem_and, hbit i hi, BitVec.getElem_zero]
      by_cases e : i = 4
      · subst e; simp [h4]
      · simp [e]
    rw [hz, if_pos (by rfl), BitVec.add_eq_or_of_and_eq_zero _ _ hz]
    congr 1
    ext i hi
    simp only [BitVec.getElem_xor, BitVec.getElem_or, hbit i hi]
    by_cases e : i = 4
    · subst e; simp [h4]
    · simp [e]
  · have hne : ¬ (b &&& 16#64).toInt = 0 := by
      intro h
      have h2 : b &&& 16#64 = 0#64 := by rw [← of_toInt (b &&& 16#64), h]; rfl
      have h3 : (b &&& 16#64)[4] = (0#64)[4] := by rw [h2]
      simp [h4] at h3
    rw [if_neg hne]
    congr 1
    have hx : (b ^^^ 16#64) &&& 16#64 = 0#64 := by
      ext i hi
      simp only [BitVec.getElem_xor, BitVec.getElem_and, hbit i hi, BitVec.getElem_zero]
      by_cases e : i = 4
      · subst e; simp [h4]
      · simp [e]
    have hs := BitVec.add_eq_or_of_and_eq_zero _ _ hx
    have ho : (b ^^^ 16#64) ||| 16#64 = b := by
      ext i hi
      simp only [BitVec.getElem_xor, BitVec.getElem_or, hbit i hi]
      by_cases e : i = 4
      · subst e; simp [h4]
      · simp [e]
    rw [ho] at hs
    have e2 : b - 16#64 = (b ^^^ 16#64) + 16#64 - 16#64 := by rw [hs]
    rw [e2, BitVec.add_sub_cancel]
end Go.Proofs.YtobbphkfdhjmdaaDoor

namespace Go.Proofs.YtobbphkfdhjmdaaDoor
open Go.RowKit

def mapEs (w : World) (r : Nat) : Array MapEntry := match w.heap[r]? with | some (.map es _) => es | _ => #[]
def mapClk (w : World) (r : Nat) : Nat := match w.heap[r]? with | some (.map _ c) => c | _ => 0
def isMap (w : World) (r : Nat) : Bool := match w.heap[r]? with | some (.map _ _) => true | _ => false
def insMap (w : World) (r : Nat) (k v : Value) : World := { w with heap := w.heap.setIfInBounds r (.map ((mapEs w r).push { key := k, val := v, born := mapClk w r }) (mapClk w r + 1)) }
def freshK (k : Int) : List MapEntry → Bool
  | [] => true
  | e :: es => (match e.key with | .int .i64 j => k != j | _ => false) && freshK k es
def findV (z : Value) (k : Int) : List MapEntry → Value × Bool
  | [] => (z, false)
  | e :: es => match e.key with | .int .i64 j => if k == j then (e.val, true) else findV z k es | _ => findV z k es
def intKeys : List MapEntry → Bool
  | [] => true
  | e :: es => (match e.key with | .int .i64 _ => true | _ => false) && intKeys es
theorem isMap_heap {w : World} {r : Nat} (h : isMap w r = true) : w.heap[r]? = some (.map (mapEs w r) (mapClk w r)) := by
  unfold isMap mapEs mapClk at *
  split at h
  · rename_i h1; rw [h1]
  · cases h
theorem find_fresh {k : Int} : ∀ (l : List MapEntry) (i : Nat), freshK k l = true → Instr.findNow (.int .i64) (.int .i64 k) l i = some none
  | [], _, _ => rfl
  | e :: es, i, h => by
    obtain ⟨key, val, born⟩ := e
    simp only [freshK, Bool.and_eq_true] at h
    cases key <;> try (exact absurd h.1 Bool.false_ne_true)
    rename_i kd j
    cases kd <;> try (exact absurd h.1 Bool.false_ne_true)
    have hne : (k == j) = false := by simpa using h.1
    simp only [Instr.findNow, Instr.sameNow, if_true, hne]
    exact find_fresh es (i + 1) h.2
theorem find_val {z : Value} {k : Int} : ∀ (l : List MapEntry) (i : Nat), intKeys l = true → ∃ r, Instr.findNow (.int .i64) (.int .i64 k) l i = some r ∧ ((r = none ∧ findV z k l = (z, false)) ∨ ∃ j v, r = some (j, v) ∧ findV z k l = (v, true))
  | [], _, _ => ⟨none, rfl, .inl ⟨rfl, rfl⟩⟩
  | e :: es, i, h => by
    obtain ⟨key, val, born⟩ := e
    simp only [intKeys, Bool.and_eq_true] at h
    cases key <;> try (exact absurd h.1 Bool.false_ne_true)
    rename_i kd j
    cases kd <;> try (exact absurd h.1 Bool.false_ne_true)
    cases hne : k == j
    · obtain ⟨r, h1, h2⟩ := find_val (z := z) (k := k) es (i + 1) h.2
      refine ⟨r, ?_, ?_⟩
      · simp only [Instr.findNow, Instr.sameNow, if_true, hne]
        exact h1
      · simpa only [findV, hne, Bool.false_eq_true, if_false] using h2
    · refine ⟨some (i, val), ?_, .inr ⟨i, val, rfl, ?_⟩⟩
      · simp only [Instr.findNow, Instr.sameNow, if_true, hne]
      · simp only [findV, hne, if_true]
section
variable {P : Program} {mt kt et : TypeId}
theorem run_ins (hm : P.underlying mt = some (.map kt et)) (hk : P.underlying kt = some (.int .i64)) (w : World) (r : Nat) (k : Int) (v : Value) (h : isMap w r = true) (hf : freshK k (mapEs w r).toList = true) :
    (Instr.mapUpdate mt (.map (some r)) (.int .i64 k) v).run P w = .ok () (insMap w r (.int .i64 k) v) := by
  have hb := isMap_heap h
  have hc : (Instr.checkKey false 10000 kt (.int .i64 k)).run P w = .ok () w := MapKept.run_checkKey (k := .int .i64 k) hk (by simp [MapKept.IsKey]) false 9999
  simp [Instr.mapUpdate, run_underlying hm, MapKept.run_getObj_map hb, hc, MapKept.run_findKey hk (find_fresh _ 0 hf), MapKept.run_setObj_map _ hb, Result.andThen, insMap]
theorem run_look (hm : P.underlying mt = some (.map kt et)) (hk : P.underlying kt = some (.int .i64)) {z : Value} (hz : ∀ w, (zeroValue et).run P w = .ok z w) (w : World) (r : Nat) (k : Int) (ok : Bool) (h : isMap w r = true) (hf : intKeys (mapEs w r).toList = true) :
    (Instr.lookup mt (.map (some r)) (.int .i64 k) ok).run P w = .ok (if ok then .tuple #[(findV z k (mapEs w r).toList).1, .bool (findV z k (mapEs w r).toList).2] else (findV z k (mapEs w r).toList).1) w := by
  have hb := isMap_heap h
  have hc : ∀ e, (Instr.checkKey e 10000 kt (.int .i64 k)).run P w = .ok () w := fun e => MapKept.run_checkKey (k := .int .i64 k) hk (by simp [MapKept.IsKey]) e 9999
  obtain ⟨f, h1, h2⟩ := find_val (z := z) (k := k) (mapEs w r).toList 0 hf
  rcases h2 with ⟨rfl, h2⟩ | ⟨j, v, rfl, h2⟩
  all_goals
    rw [h2]
    simp only [Instr.lookup, Sem.run_bind, run_underlying hm, MapKept.run_getObj_map hb, hc, MapKept.run_findKey hk h1, Result.andThen, Sem.run_pure, hz]
  all_goals cases ok <;> simp
end
section
variable (w : World)
theorem alloc_new (o : Obj) : (w.alloc o).heap[w.heap.size]? = some o := by show (w.heap.push o)[w.heap.size]? = _; simp
@[go_sem] theorem isMap_new (es : Array MapEntry) (c : Nat) : isMap (w.alloc (.map es c)) w.heap.size = true := by simp only [isMap, alloc_new]
@[go_sem] theorem mapEs_new (es : Array MapEntry) (c : Nat) : mapEs (w.alloc (.map es c)) w.heap.size = es := by simp only [mapEs, alloc_new]
theorem mapClk_new (es : Array MapEntry) (c : Nat) : mapClk (w.alloc (.map es c)) w.heap.size = c := by simp only [mapClk, alloc_new]
@[go_sem] theorem isMap_at (es : Array MapEntry) (c r : Nat) (hr : r = w.heap.size) : isMap (w.alloc (.map es c)) r = true := by subst hr; exact isMap_new w es c
@[go_sem] theorem mapEs_at (es : Array MapEntry) (c r : Nat) (hr : r = w.heap.size) : mapEs (w.alloc (.map es c)) r = es := by subst hr; exact mapEs_new w es c
theorem alloc_heap (o : Obj) {k : Nat} (hk : k < w.heap.size) : (w.alloc o).heap[k]? = w.heap[k]? := by
  show (w.heap.push o)[k]? = _
  rw [Array.getElem?_push_lt hk, Array.getElem?_eq_getElem hk]
@[go_sem] theorem isMap_alloc (o : Obj) (r : Nat) (hr : r < w.heap.size) : isMap (w.alloc o) r = isMap w r := by simp only [isMap, alloc_heap w o hr]
@[go_sem] theorem mapEs_alloc (o : Obj) (r : Nat) (hr : r < w.heap.size) : mapEs (w.alloc o) r = mapEs w r := by simp only [mapEs, alloc_heap w o hr]
theorem mapClk_alloc (o : Obj) (r : Nat) (hr : r < w.heap.size) : mapClk (w.alloc o) r = mapClk w r := by simp only [mapClk, alloc_heap w o hr]
@[go_sem] theorem isMap_ext (h : Array Obj) (d : Nat) (r : Nat) (hr : r < w.heap.size) : isMap (ext w h d) r = isMap w r := by simp only [isMap, ext_heap w h d r hr]
@[go_sem] theorem mapEs_ext (h : Array Obj) (d : Nat) (r : Nat) (hr : r < w.heap.size) : mapEs (ext w h d) r = mapEs w r := by simp only [mapEs, ext_heap w h d r hr]
theorem mapClk_ext (h : Array Obj) (d : Nat) (r : Nat) (hr : r < w.heap.size) : mapClk (ext w h d) r = mapClk w r := by simp only [mapClk, ext_heap w h d r hr]
@[go_sem] theorem isMap_drew (r : Nat) : isMap w.drew r = isMap w r := rfl
@[go_sem] theorem mapEs_drew (r : Nat) : mapEs w.drew r = mapEs w r := rfl
@[go_sem] theorem insMap_new (es : Array MapEntry) (c : Nat) (k v : Value) : insMap (w.alloc (.map es c)) w.heap.size k v = w.alloc (.map (es.push { key := k, val := v, born := c }) (c + 1)) := by
  simp only [insMap, mapEs_new, mapClk_new]
  show ({ w with heap := (w.heap.push (.map es c)).setIfInBounds w.heap.size _ } : World) = { w with heap := w.heap.push _ }
  simp only [World.mk.injEq, and_true]
  apply Array.ext_getElem?
  intro i
  simp only [Array.getElem?_setIfInBounds, Array.getElem?_push, Array.size_push]
  by_cases hi : w.heap.size = i
  · subst hi; simp
  · have : ¬ i = w.heap.size := fun e => hi e.symm
    simp [hi, this]
@[go_sem] theorem insMap_ext (h : Array Obj) (d : Nat) (r : Nat) (k v : Value) (hr : r < w.heap.size) : insMap (ext w h d) r k v = ext (insMap w r k v) h d := by
  simp only [insMap, mapEs_ext w h d r hr, mapClk_ext w h d r hr]
  simp only [ext, World.mk.injEq, and_true]
  apply Array.ext_getElem?
  intro i
  simp only [Array.getElem?_setIfInBounds, Array.getElem?_append, Array.size_setIfInBounds, Array.size_append]
  by_cases hi : r = i
  · subst hi; simp [hr, Nat.lt_add_right]
  · simp [hi]
@[go_sem] theorem insMap_size (r : Nat) (k v : Value) : (insMap w r k v).heap.size = w.heap.size := by simp [insMap]
end
@[go_sem] theorem freshK_nil (k : Int) : freshK k [] = true := rfl
@[go_sem] theorem freshK_cons (k j : Int) (v : Value) (b : Nat) (l : List MapEntry) : freshK k ({ key := .int .i64 j, val := v, born := b } :: l) = (k != j && freshK k l) := rfl
@[go_sem] theorem intKeys_nil : intKeys [] = true := rfl
@[go_sem] theorem intKeys_cons (j : Int) (v : Value) (b : Nat) (l : List MapEntry) : intKeys ({ key := .int .i64 j, val := v, born := b } :: l) = intKeys l := by simp [intKeys]
@[go_sem] theorem findV_nil (z : Value) (k : Int) : findV z k [] = (z, false) := rfl
@[go_sem] theorem findV_cons (z : Value) (k j : Int) (v : Value) (b : Nat) (l : List MapEntry) : findV z k ({ key := .int .i64 j, val := v, born := b } :: l) = if k == j then (v, true) else findV z k l := rfl
end Go.Proofs.YtobbphkfdhjmdaaDoor

namespace Go.Proofs.YtobbphkfdhjmdaaDoor
section
variable {P : Program} {ops : Array Oper} {md : Region.Mode} {C : World → Prop}
/-- The first f operations to come up are all below n and quiet in the class; L holds behind them. -/
def quietHead (P : Program) (md : Region.Mode) (ops : Array Oper) (C : World → Prop) (n : Nat) (L : Array Bool → Act → Prop) : Nat → Array Bool → Act → Prop
  | 0, listed, a => L listed a
  | f + 1, listed, a => Region.ready md ops listed ≠ [] ∧ ∀ i ∈ Region.ready md ops listed, i < n ∧ qOp P ops C i (quietHead P md ops C n L f (listed.setIfInBounds i true)) a
theorem any_of_quietHead {n g : Nat} {L : Array Bool → Act → Prop} {Q : Exit → Act → World → Prop} (hL : ∀ listed a w, C w → L listed a → wpAny P md ops Q g listed a w) :
    ∀ (f : Nat) (listed : Array Bool) (a : Act) (w : World), C w → quietHead P md ops C n L f listed a → wpAny P md ops Q (f + g) listed a w
  | 0, listed, a, w, hw, h => by
    rw [Nat.zero_add]
    exact hL _ _ _ hw h
  | f + 1, listed, a, w, hw, h => by
    rw [Nat.add_right_comm]
    exact ⟨fun h0 => absurd h0 h.1, fun i hi => wpOp_of_qOp hw (fun a' w' hw' h' => any_of_quietHead hL f _ a' w' hw' h') (h.2 i hi).2⟩
theorem quietHead_take {n i : Nat} {oi : Oper} {v : Value} {L : Array Bool → Act → Prop} (hi : ops[i]? = some oi) (hsel : ∀ (j : Nat) (o : Oper) cs b, ops[j]? = some o → o.op ≠ .select cs b)
    (hs : Region.sinkB md ops n = true) (hc : Region.chainB md ops n = true) (hn : n < ops.size) (hin : i < n) (hdone : ∀ listed a, L listed a → ∀ j ∈ Region.ready md ops listed, n ≤ j) :
    ∀ (f : Nat) (listed : Array Bool) (a : Act), HeadInv md ops n listed →
      (∀ j oj, ops[j]? = some oj → j ≠ i → listed.getD j true = false → (∀ e ∈ oj.after, Region.binds md e = true → e.on ≠ i) → oi.apart ops oj = true) →
      i ∈ Region.ready md ops listed → YieldsIn P ops C oi v a →
      quietHead P md ops C n L f (listed.setIfInBounds i true) (a.put oi.dst v) → quietHead P md ops C n L (f + 1) listed a := by
  have below : ∀ (listed : Array Bool), HeadInv md ops n listed → i ∈ Region.ready md ops listed → ∀ j ∈ Region.ready md ops listed, j < n := by
    intro listed inv hr j hj
    rcases Nat.lt_or_ge j n with h | h
    · exact h
    · exact absurd hj (tail_waits hs hc hn inv _ i rfl hin (mem_ready.1 hr).1 j h)
  intro f
  induction f with
  | zero =>
    intro listed a inv _ hr hy H
    refine ⟨fun h => (by rw [h] at hr; cases hr), fun j hj => ⟨below listed inv hr j hj, ?_⟩⟩
    by_cases hji : j = i
    · subst hji
      exact hy.qOp hi H
    · have h1 := hdone _ _ H j (ready_mono hj hji)
      have h2 := below listed inv hr j hj
      omega
  | succ f ih =>
    intro listed a inv hfree hr hy H
    refine ⟨fun h => (by rw [h] at hr; cases hr), fun j hj => ⟨below listed inv hr j hj, ?_⟩⟩
    by_cases hji : j = i
    · subst hji
      exact hy.qOp hi H
    · have hjn := below listed inv hr j hj
      obtain ⟨hjun, oj, hoj, hall⟩ := mem_ready.1 hj
      have hnot : ∀ e ∈ oj.after, Region.binds md e = true → e.on ≠ i := fun e he hb heq => by
        have h1 := hall e he hb
        rw [heq, getD_both (mem_ready.1 hr).1] at h1
        cases h1
      have h2 := qOp_put hoj (hfree j oj hoj hji hjun hnot) (fun cs b => hsel i oi cs b hi) (fun cs b => hsel j oj cs b hoj) hy (H.2 j (ready_mono hj hji)).2
      refine qOp_mono (fun a' h3 => ih (listed.setIfInBounds j true) a' (inv.set hj hjn) (fun k ok hk hki hun hno => hfree k ok hk hki ?_ hno) (ready_mono hr (Ne.symm hji)) h3.1 ?_) h2
      · by_cases hjk : j = k
        · subst hjk
          exact hjun
        · rwa [getD_set_ne true hjk] at hun
      · rw [Array.setIfInBounds_comm _ _ hji]
        exact h3.2
theorem quietHead_lex {n g : Nat} {Lq : Act → Prop} (hsel : Region.noSelect ops = true) (hs : Region.sinkB md ops n = true) (hc : Region.chainB md ops n = true) (hn : n < ops.size) :
    ∀ (l : List Oper) (k : Nat) (listed : Array Bool) (a : Act), (∀ j, j < l.length → l[j]? = ops[k + j]?) → k + l.length = n → HeadInv md ops n listed →
    Region.lexHead md ops g l.length k listed = true → wpQuiet P ops C Lq l a → quietHead P md ops C n (fun listed' a' => Region.seqB md ops g n listed' = true ∧ Lq a') l.length listed a
  | [], k, listed, a, _, hk, _, hB, h => by
    obtain rfl : k = n := by simpa using hk
    exact ⟨by simpa [Region.lexHead] using hB, h⟩
  | o :: l, k, listed, a, hl, hk, inv, hB, h => by
    have h0 : ops[k]? = some o := by simpa using (hl 0 (by simp)).symm
    simp only [List.length_cons, Region.lexHead, Bool.and_eq_true] at hB hk
    obtain ⟨⟨hr, hf⟩, hB'⟩ := hB
    have hkn : k < n := by omega
    have hr' : k ∈ Region.ready md ops listed := by simpa using hr
    have hst : qOp P ops C k (wpQuiet P ops C Lq l) a := by
      unfold qOp
      simp only [h0]
      exact h
    obtain ⟨v, hy, hK⟩ := yieldsIn_of_qOp h0 hst
    exact quietHead_take h0 (Region.noSelect_spec hsel) hs hc hn hkn (fun listed' a' hL => seqB_ready hL.1) l.length listed a inv (Region.free_spec h0 hf) hr' hy
      (quietHead_lex hsel hs hc hn l (k + 1) _ _ (fun j hj => by have := hl (j + 1) (by simp; omega); simpa [Nat.add_assoc, Nat.add_comm 1 j] using this) (by omega) (inv.set hr' hkn) hB' hK)
/-- n operations that are quiet in the class, then a tail in forced order. -/
theorem wp_region_quiet_tail {id : Nat} {Q : Exit → Act → World → Prop} {a : Act} {w : World} {l : List Oper} (n : Nat) (hm : P.follows .mixedOrders = true) (hB : Region.lexTailB .any l.toArray n = true) (hC : C { w with drawn := w.drawn + 1 })
    (h : wpQuiet P l.toArray C (fun a' => ∀ w', C w' → wpList P l.toArray Q (l.drop n) a' w') (l.take n) a) : (Code.region id l.toArray true).wp P Q a w := by
  simp only [Region.lexTailB, Bool.and_eq_true, decide_eq_true_eq] at hB
  obtain ⟨⟨⟨⟨hsel, hn⟩, hs⟩, hc⟩, hlex⟩ := hB
  have hn' : n < l.length := by simpa using hn
  have htl : (l.take n).length = n := by simp; omega
  have hdl : (l.drop n).length = l.toArray.size - n := by simp
  have inv0 : HeadInv .any l.toArray n (Array.replicate l.toArray.size false) :=
    ⟨by simp, fun j oj _ hl => (by rw [getD_replicate_false] at hl; cases hl), fun t _ ht => getD_in (by simpa using ht) (getD_replicate_false _ _)⟩
  have H := quietHead_lex (md := .any) (g := l.toArray.size - n) hsel hs hc hn (l.take n) 0 _ a (fun j hj => by
    rw [htl] at hj
    simp [hj]) (by simpa using htl) inv0 (by rw [htl]; exact hlex) h
  refine wp_region_any hm ?_
  have H2 := any_of_quietHead (Q := Q) (g := l.toArray.size - n) (fun listed a' w' hw' hL => by
    have h3 := wpAny_of_seq (md := .any) (Q' := Q) (l.drop n) n listed a' w' (fun j => by simp [List.getElem?_drop]) (by rw [hdl]; exact hL.1) (hL.2 w' hw')
    rwa [hdl] at h3) _ _ _ _ hC H
  rwa [htl, show n + (l.toArray.size - n) = l.toArray.size by omega] at H2
end
/-- By what a world has grown: one variable. -/
def Gr : Type := Array Obj × Nat
def Gr.h (x : Gr) : Array Obj := Prod.fst x
def Gr.d (x : Gr) : Nat := Prod.snd x
def Gr.mk (h : Array Obj) (d : Nat) : Gr := (h, d)
instance : Nonempty Gr := ⟨Gr.mk #[] 0⟩
/-- The region's walk at the class of worlds that have grown out of the region's first one. -/
theorem wp_region_grow {P : Program} {id : Nat} {Q : Exit → Act → World → Prop} {a : Act} {w : World} {l : List Oper} (hm : P.follows .mixedOrders = true) (hB : Region.lexB .any l.toArray = true)
    (h : wpQuiet P l.toArray (fun w' => ∃ x : Gr, w' = ext w x.h x.d) (fun a' => ∀ w', (∃ x : Gr, w' = ext w x.h x.d) → Q .normal a' w') l a) : (Code.region id l.toArray true).wp P Q a w :=
  wp_region_quiet (C := fun w' => ∃ x : Gr, w' = ext w x.h x.d) hm hB ⟨Gr.mk #[] (w.drawn + 1), by simp [ext, Gr.mk, Gr.h, Gr.d]⟩ (by simpa using h)
theorem wp_region_grow_tail {P : Program} {id : Nat} {Q : Exit → Act → World → Prop} {a : Act} {w : World} {l : List Oper} (n : Nat) (hm : P.follows .mixedOrders = true) (hB : Region.lexTailB .any l.toArray n = true)
    (h : wpQuiet P l.toArray (fun w' => ∃ x : Gr, w' = ext w x.h x.d) (fun a' => ∀ w', (∃ x : Gr, w' = ext w x.h x.d) → wpList P l.toArray Q (l.drop n) a' w') (l.take n) a) : (Code.region id l.toArray true).wp P Q a w :=
  wp_region_quiet_tail (C := fun w' => ∃ x : Gr, w' = ext w x.h x.d) n hm hB ⟨Gr.mk #[] (w.drawn + 1), by simp [ext, Gr.mk, Gr.h, Gr.d]⟩ h
theorem Gr.h_mk (h : Array Obj) (d : Nat) : (Gr.mk h d).h = h := rfl
theorem Gr.d_mk (h : Array Obj) (d : Nat) : (Gr.mk h d).d = d := rfl
end Go.Proofs.YtobbphkfdhjmdaaDoor

namespace Go.Proofs.YtobbphkfdhjmdaaDoor
/-- What an operation must come to in a world: one value, the world as it was; or a call that returns the value and leaves the world grown. -/
@[go_sem] def growUpon (P : Program) (w : World) (v : Value) : Result Next → Prop
  | .ok (.value u) w' => w' = w ∧ u = v
  | .ok .skip w' => w' = w ∧ v = undef
  | .ok (.enter f args) w' => w' = w ∧ Calls P f args w (Ret v w)
  | _ => False
@[go_sem] def opGrow (P : Program) (w0 : World) (o : Oper) (a : Act) (v : Value) : Prop := ∀ x : Gr, growUpon P (ext w0 x.h x.d) v ((execOp a.eval o).run P (ext w0 x.h x.d))
@[go_sem] def opGrows (P : Program) (w0 : World) (o : Oper) (a : Act) (next : Act → Prop) : Prop := ∃ v, opGrow P w0 o a v ∧ next (a.put o.dst v)
/-- The walk in the order of the text. -/
def wpGrow (P : Program) (ops : Array Oper) (w0 : World) (Q : Act → Prop) : List Oper → Act → Prop
  | [], a => Q a
  | o :: rest, a => if Region.wanted o (yielded ops a.tmps) then opGrows P w0 o a (wpGrow P ops w0 Q rest) else wpGrow P ops w0 Q rest (a.put o.dst undef)
section
variable {P : Program} {ops : Array Oper} {md : Region.Mode} {w0 : World}
theorem wpGrow_nil {Q : Act → Prop} {a : Act} (h : Q a) : wpGrow P ops w0 Q [] a := h
theorem wpGrow_step {Q : Act → Prop} {a : Act} {o : Oper} {rest : List Oper}
    (h : ∀ K : Act → Prop, (∀ a, wpGrow P ops w0 Q rest a → K a) → if Region.wanted o (yielded ops a.tmps) then opGrows P w0 o a K else K (a.put o.dst undef)) : wpGrow P ops w0 Q (o :: rest) a :=
  h _ (fun _ h => h)
/-- Operation number i comes up. -/
def gOp (P : Program) (ops : Array Oper) (w0 : World) (i : Nat) (K : Act → Prop) (a : Act) : Prop :=
  match ops[i]? with
  | none => K a
  | some o => if Region.wanted o (yielded ops a.tmps) then opGrows P w0 o a K else K (a.put o.dst undef)
theorem gOp_some {i : Nat} {o : Oper} (hi : ops[i]? = some o) (K : Act → Prop) (a : Act) : gOp P ops w0 i K a = if Region.wanted o (yielded ops a.tmps) then opGrows P w0 o a K else K (a.put o.dst undef) := by
  unfold gOp
  rw [hi]
def YieldsG (P : Program) (ops : Array Oper) (w0 : World) (o : Oper) (v : Value) (a : Act) : Prop :=
  (Region.wanted o (yielded ops a.tmps) = true ∧ opGrow P w0 o a v) ∨ (Region.wanted o (yielded ops a.tmps) = false ∧ v = undef)
theorem yieldsG_iff {i : Nat} {o : Oper} (hi : ops[i]? = some o) (K : Act → Prop) (a : Act) : gOp P ops w0 i K a ↔ ∃ v, YieldsG P ops w0 o v a ∧ K (a.put o.dst v) := by
  rw [gOp_some hi]
  cases hw : Region.wanted o (yielded ops a.tmps)
  · simp [YieldsG, hw]
  · simp [YieldsG, hw, opGrows]
theorem YieldsG.of_same {o : Oper} {v : Value} {a a' : Act} (hy : YieldsG P ops w0 o v a) (he : execOp a'.eval o = execOp a.eval o) (hw : Region.wanted o (yielded ops a'.tmps) = Region.wanted o (yielded ops a.tmps)) : YieldsG P ops w0 o v a' := by
  unfold YieldsG opGrow at *
  rw [he, hw]
  exact hy
theorem gOp_mono {i : Nat} {o : Oper} (hi : ops[i]? = some o) {a : Act} {K K' : Act → Prop} (h : ∀ a, K a → K' a) (hh : gOp P ops w0 i K a) : gOp P ops w0 i K' a := by
  rw [yieldsG_iff hi] at *
  obtain ⟨v, h1, h2⟩ := hh
  exact ⟨v, h1, h _ h2⟩
theorem wpOp_of_gOp {i : Nat} {o : Oper} (hi : ops[i]? = some o) {a : Act} {K : Act → Prop} {K' : Act → World → Prop} {Q : Exit → Act → World → Prop} {w : World} (x : Gr) (hx : w = ext w0 x.h x.d) (h : ∀ a w', Grows w w' → K a → K' a w') (hh : gOp P ops w0 i K a) : wpOp P ops Q i K' a w := by
  obtain ⟨v, hy, hk⟩ := (yieldsG_iff hi K a).1 hh
  subst hx
  unfold wpOp
  simp only [hi]
  rcases hy with ⟨hw, hv⟩ | ⟨hw, rfl⟩
  · rw [if_pos hw]
    refine .inl ?_
    have h3 := hv x
    unfold Oper.wp
    generalize (execOp a.eval o).run P (ext w0 x.h x.d) = r at *
    cases r with
    | ok nx w' =>
      cases nx <;> simp only [growUpon] at h3 <;> simp only [Oper.upon]
      case value u =>
        obtain ⟨e1, e2⟩ := h3
        rw [e1, e2]
        exact h _ _ (Grows.refl _) hk
      case skip =>
        obtain ⟨e1, e2⟩ := h3
        rw [e1, ← e2]
        exact h _ _ (Grows.refl _) hk
      case enter f args =>
        obtain ⟨e1, hc⟩ := h3
        rw [e1]
        exact hc.mono fun e w'' ⟨he, hw''⟩ => by subst he; exact h _ _ hw'' hk
    | halt q w' => simp only [growUpon] at h3
  · rw [if_neg (by rw [hw]; exact Bool.false_ne_true)]
    exact h _ _ (Grows.refl _) hk
/-- One operation apart from another one: whether its value is already in its temporary makes no difference. -/
theorem gOp_put {j : Nat} {oi oj : Oper} {v : Value} (hj : ops[j]? = some oj) (hap : oi.apart ops oj = true) (hsi : ∀ cs b, oi.op ≠ .select cs b) (hsj : ∀ cs b, oj.op ≠ .select cs b) {K : Act → Prop} {a : Act} (hy : YieldsG P ops w0 oi v a) (h : gOp P ops w0 j K (a.put oi.dst v)) :
    gOp P ops w0 j (fun a' => YieldsG P ops w0 oi v a' ∧ K (a'.put oi.dst v)) a := by
  obtain ⟨h1, h2, h3⟩ := Oper.apart_spec hap
  rw [yieldsG_iff hj] at *
  obtain ⟨u, hu, hk⟩ := h
  refine ⟨u, hu.of_same (execOp_put oj hsj a oi.dst v h1).symm (wanted_put oj a oi.dst v h1).symm, hy.of_same (execOp_put oi hsi a oj.dst u h3) (wanted_put oi a oj.dst u h3), ?_⟩
  rw [← Act.put_comm a v u h2]
  exact hk
theorem gOp_under {j : Nat} {oi oj : Oper} {v : Value} (hj : ops[j]? = some oj) (hap : oi.apart ops oj = true) (hsj : ∀ cs b, oj.op ≠ .select cs b) {K : Act → Prop} {a : Act} (h : gOp P ops w0 j K a) :
    gOp P ops w0 j (fun a' => ∃ a'', a' = a''.put oi.dst v ∧ K a'') (a.put oi.dst v) := by
  obtain ⟨h1, h2, h3⟩ := Oper.apart_spec hap
  rw [yieldsG_iff hj] at *
  obtain ⟨u, hu, hk⟩ := h
  exact ⟨u, hu.of_same (execOp_put oj hsj a oi.dst v h1) (wanted_put oj a oi.dst v h1), _, Act.put_comm a v u h2, hk⟩
/-- Where the new block lies. -/
@[go_sem] def newPtr (w0 : World) (x : Gr) : Value := .pointer (some ⟨(ext w0 x.h x.d).heap.size, 0, none⟩)
/-- The store fills the new block: O becomes O'. -/
@[go_sem] def fillUpon (w' : World) : Result Next → Prop
  | .ok (.value _) w'' => w'' = w'
  | .ok .skip w'' => w'' = w'
  | _ => False
@[go_sem] def fills (P : Program) (w0 : World) (d : Option Tmp) (os : Oper) (O O' : Obj) (a : Act) : Prop :=
  ∀ x y : Gr, fillUpon (ext ((ext w0 x.h x.d).alloc O') y.h y.d) ((execOp (a.put d (newPtr w0 x)).eval os).run P (ext ((ext w0 x.h x.d).alloc O) y.h y.d))
/-- Operation number i comes up: number j makes the block, number s fills it, all others are quiet. -/
def xOp (P : Program) (ops : Array Oper) (w0 : World) (j s : Nat) (S : Act → Prop) (i : Nat) (K : Act → Prop) (a : Act) : Prop :=
  if i = j then K a else if i = s then S a ∧ K a else gOp P ops w0 i K a
def xAny (P : Program) (md : Region.Mode) (ops : Array Oper) (w0 : World) (j s : Nat) (S : Act → Prop) (Q : Act → Prop) : Nat → Array Bool → Act → Prop
  | 0, listed, a => Region.ready md ops listed = [] ∧ (listed.getD j false = true ∧ listed.getD s false = true) ∧ Q a
  | f + 1, listed, a => (Region.ready md ops listed = [] → (listed.getD j false = true ∧ listed.getD s false = true) ∧ Q a) ∧ ∀ i ∈ Region.ready md ops listed, xOp P ops w0 j s S i (xAny P md ops w0 j s S Q f (listed.setIfInBounds i true)) a
section
variable {j s : Nat} {S : Act → Prop} {Q : Act → Prop}
/-- What is known of operation i in a state: its value, or that it fills. -/
def xKnown (P : Program) (ops : Array Oper) (w0 : World) (j s : Nat) (S : Act → Prop) (i : Nat) (o : Oper) (v : Value) (a : Act) : Prop :=
  if i = j then True else if i = s then S a else YieldsG P ops w0 o v a
def xPut (j s i : Nat) (o : Oper) (v : Value) (a : Act) : Act := if i = j then a else if i = s then a else a.put o.dst v
theorem xOp_iff {i : Nat} {o : Oper} (hi : ops[i]? = some o) (K : Act → Prop) (a : Act) : xOp P ops w0 j s S i K a ↔ ∃ v, xKnown P ops w0 j s S i o v a ∧ K (xPut j s i o v a) := by
  unfold xOp xKnown xPut
  by_cases h1 : i = j
  · simp [h1]
  · by_cases h2 : i = s
    · simp only [h2, if_true]
      subst h2
      simp only [if_neg h1]
      exact ⟨fun ⟨p, q⟩ => ⟨undef, p, q⟩, fun ⟨_, p, q⟩ => ⟨p, q⟩⟩
    · simp only [h1, h2, if_false]
      exact yieldsG_iff hi K a
theorem xOp_mono {i : Nat} {o : Oper} (hi : ops[i]? = some o) {a : Act} {K K' : Act → Prop} (h : ∀ a, K a → K' a) (hh : xOp P ops w0 j s S i K a) : xOp P ops w0 j s S i K' a := by
  rw [xOp_iff hi] at *
  obtain ⟨v, h1, h2⟩ := hh
  exact ⟨v, h1, h _ h2⟩
/-- S hangs on nothing that an operation apart from number s writes. -/
def Steady (ops : Array Oper) (s : Nat) (S : Act → Prop) : Prop := ∀ (os : Oper), ops[s]? = some os → ∀ (o : Oper) (a : Act) (v : Value), (os.apart ops o = true ∨ o.apart ops os = true) → (S (a.put o.dst v) ↔ S a)
theorem xKnown_put {i k : Nat} {oi ok : Oper} {v u : Value} (hi : ops[i]? = some oi) (_hk : ops[k]? = some ok) (_hki : k ≠ i) (hap : oi.apart ops ok = true) (hsi : ∀ cs b, oi.op ≠ .select cs b) (hS : Steady ops s S) {a : Act} :
    xKnown P ops w0 j s S i oi v (xPut j s k ok u a) ↔ xKnown P ops w0 j s S i oi v a := by
  obtain ⟨h1, h2, h3⟩ := Oper.apart_spec hap
  unfold xKnown xPut
  by_cases q1 : k = j
  · simp [q1]
  · by_cases q2 : k = s
    · simp [q2]
    · simp only [q1, q2, if_false]
      by_cases p1 : i = j
      · simp [p1]
      · by_cases p2 : i = s
        · subst p2
          simp only [p1, if_false, if_true]
          exact hS oi hi ok a u (.inl hap)
        · simp only [p1, p2, if_false]
          have e1 := execOp_put (ops := ops) oi hsi a ok.dst u h3
          have e2 := wanted_put (ops := ops) oi a ok.dst u h3
          exact ⟨fun h => h.of_same e1.symm e2.symm, fun h => h.of_same e1 e2⟩
theorem xPut_comm {i k : Nat} {oi ok : Oper} {v u : Value} (hap : oi.apart ops ok = true) (a : Act) : xPut j s k ok u (xPut j s i oi v a) = xPut j s i oi v (xPut j s k ok u a) := by
  obtain ⟨h1, h2, h3⟩ := Oper.apart_spec hap
  unfold xPut
  split <;> split <;> (try split) <;> (try split) <;> first | rfl | exact Act.put_comm a v u h2
theorem apart_symm {x y : Oper} (h : x.apart ops y = true) : y.apart ops x = true := by
  obtain ⟨h1, h2, h3⟩ := Oper.apart_spec h
  unfold Oper.apart
  rw [Bool.and_eq_true]
  constructor
  · cases hy : y.dst with
    | none => rfl
    | some d =>
      simp only [Bool.and_eq_true, Bool.not_eq_true', bne_iff_ne]
      refine ⟨by simpa using h3 d hy, fun e => h2 d e hy⟩
  · cases hx : x.dst with
    | none => rfl
    | some d => simpa using h1 d hx
theorem xOp_put {i k : Nat} {oi ok : Oper} {v : Value} (hi : ops[i]? = some oi) (hk : ops[k]? = some ok) (hki : k ≠ i) (hap : oi.apart ops ok = true) (hsi : ∀ cs b, oi.op ≠ .select cs b) (hsk : ∀ cs b, ok.op ≠ .select cs b) (hS : Steady ops s S) {K : Act → Prop} {a : Act}
    (hy : xKnown P ops w0 j s S i oi v a) (h : xOp P ops w0 j s S k K (xPut j s i oi v a)) : xOp P ops w0 j s S k (fun a' => xKnown P ops w0 j s S i oi v a' ∧ K (xPut j s i oi v a')) a := by
  rw [xOp_iff hk] at *
  obtain ⟨u, hu, hK⟩ := h
  refine ⟨u, (xKnown_put hk hi (Ne.symm hki) (apart_symm hap) hsk hS).1 hu, (xKnown_put hi hk hki hap hsi hS).2 hy, ?_⟩
  rw [← xPut_comm (oi := oi) (ok := ok) hap]
  exact hK
theorem xAny_first {i : Nat} {oi : Oper} {v : Value} (hi : ops[i]? = some oi) (hsel : ∀ (j : Nat) (o : Oper) cs b, ops[j]? = some o → o.op ≠ .select cs b) (hS : Steady ops s S) :
    ∀ (f : Nat) (listed : Array Bool) (a : Act),
      (∀ k ok, ops[k]? = some ok → k ≠ i → listed.getD k true = false → (∀ e ∈ ok.after, Region.binds md e = true → e.on ≠ i) → oi.apart ops ok = true) →
      i ∈ Region.ready md ops listed → xKnown P ops w0 j s S i oi v a →
      xAny P md ops w0 j s S Q f (listed.setIfInBounds i true) (xPut j s i oi v a) → xAny P md ops w0 j s S Q (f + 1) listed a := by
  intro f
  induction f with
  | zero =>
    intro listed a hfree hr hy H
    refine ⟨fun h => (by rw [h] at hr; cases hr), fun k hk => ?_⟩
    by_cases hki : k = i
    · subst hki
      exact (xOp_iff hi _ _).2 ⟨v, hy, H⟩
    · have := ready_mono hk hki
      rw [H.1] at this
      cases this
  | succ f ih =>
    intro listed a hfree hr hy H
    refine ⟨fun h => (by rw [h] at hr; cases hr), fun k hk => ?_⟩
    by_cases hki : k = i
    · subst hki
      exact (xOp_iff hi _ _).2 ⟨v, hy, H⟩
    · have h1 := H.2 k (ready_mono hk hki)
      obtain ⟨hkun, ok, hok, hall⟩ := mem_ready.1 hk
      have hnot : ∀ e ∈ ok.after, Region.binds md e = true → e.on ≠ i := fun e he hb heq => by
        have h1 := hall e he hb
        rw [heq, getD_both (mem_ready.1 hr).1] at h1
        cases h1
      have h2 := xOp_put hi hok hki (hfree k ok hok hki hkun hnot) (fun cs b => hsel i oi cs b hi) (fun cs b => hsel k ok cs b hok) hS hy h1
      refine xOp_mono hok (fun a' h3 => ih (listed.setIfInBounds k true) a' (fun m om hm hmi hun hno => hfree m om hm hmi ?_ hno) (ready_mono hr (Ne.symm hki)) h3.1 ?_) h2
      · by_cases hkm : k = m
        · subst hkm
          exact hkun
        · rwa [getD_set_ne true hkm] at hun
      · rw [Array.setIfInBounds_comm _ _ hki]
        exact h3.2
/-- The walk in the order of the text, with the two operations passed over. -/
def xWalk (P : Program) (ops : Array Oper) (w0 : World) (j s : Nat) (S : Act → Prop) (Q : Act → Prop) : Nat → List Oper → Act → Prop
  | _, [], a => Q a
  | k, o :: l, a => if k = j then xWalk P ops w0 j s S Q (k + 1) l a else if k = s then S a ∧ xWalk P ops w0 j s S Q (k + 1) l a
    else if Region.wanted o (yielded ops a.tmps) then opGrows P w0 o a (xWalk P ops w0 j s S Q (k + 1) l) else xWalk P ops w0 j s S Q (k + 1) l (a.put o.dst undef)
theorem xWalk_mono {Q2 : Act → Prop} (hQ : ∀ a, Q a → Q2 a) : ∀ (l : List Oper) (k : Nat) (a : Act), xWalk P ops w0 j s S Q k l a → xWalk P ops w0 j s S Q2 k l a
  | [], _, a, h => hQ a h
  | o :: l, k, a, h => by
    unfold xWalk at h ⊢
    by_cases h1 : k = j
    · rw [if_pos h1] at h ⊢
      exact xWalk_mono hQ l _ _ h
    · rw [if_neg h1] at h ⊢
      by_cases h2 : k = s
      · rw [if_pos h2] at h ⊢
        exact ⟨h.1, xWalk_mono hQ l _ _ h.2⟩
      · rw [if_neg h2] at h ⊢
        split at h
        · rename_i hw
          rw [if_pos hw]
          obtain ⟨v, hv, hk⟩ := h
          exact ⟨v, hv, xWalk_mono hQ l _ _ hk⟩
        · rename_i hw
          rw [if_neg hw]
          exact xWalk_mono hQ l _ _ h
def lexX (md : Region.Mode) (ops : Array Oper) (j s : Nat) : Nat → Nat → Array Bool → Bool
  | 0, _, listed => (Region.ready md ops listed).isEmpty && (listed.getD j false && listed.getD s false)
  | f + 1, k, listed => (Region.ready md ops listed).contains k && Region.free md ops listed k && lexX md ops j s f (k + 1) (listed.setIfInBounds k true)
theorem xAny_lex (hsel : ∀ (j : Nat) (o : Oper) cs b, ops[j]? = some o → o.op ≠ .select cs b) (hS : Steady ops s S) :
    ∀ (l : List Oper) (k : Nat) (listed : Array Bool) (a : Act), (∀ m, l[m]? = ops[k + m]?) → lexX md ops j s l.length k listed = true → xWalk P ops w0 j s S Q k l a → xAny P md ops w0 j s S Q l.length listed a
  | [], k, listed, a, _, hB, h => by
    simp only [List.length_nil, lexX, Bool.and_eq_true, List.isEmpty_iff] at hB
    exact ⟨hB.1, hB.2, h⟩
  | o :: l, k, listed, a, hl, hB, h => by
    have h0 : ops[k]? = some o := by simpa using (hl 0).symm
    simp only [List.length_cons, lexX, Bool.and_eq_true] at hB
    obtain ⟨⟨hr, hf⟩, hB'⟩ := hB
    have hst : xOp P ops w0 j s S k (xWalk P ops w0 j s S Q (k + 1) l) a := by
      unfold xOp
      unfold xWalk at h
      by_cases h1 : k = j
      · simpa [h1] using h
      · by_cases h2 : k = s
        · simpa [h1, h2] using h
        · rw [if_neg h1, if_neg h2] at h ⊢
          rw [gOp_some h0]
          exact h
    obtain ⟨v, hy, hK⟩ := (xOp_iff h0 _ _).1 hst
    exact xAny_first h0 hsel hS l.length listed a (Region.free_spec h0 hf) (by simpa using hr) hy
      (xAny_lex hsel hS l (k + 1) _ _ (fun m => by have := hl (m + 1); simpa [Nat.add_assoc, Nat.add_comm 1 m] using this) hB' hK)
end
/-- How far the two operations have come, with the frame and the world that belong to it. -/
def stage (w0 : World) (d : Option Tmp) (O O' : Obj) (bj bs : Bool) (a a' : Act) (W : World) : Prop :=
  match bj, bs with
  | false, false => a' = a ∧ ∃ x : Gr, W = ext w0 x.h x.d
  | true, false => ∃ x y : Gr, a' = a.put d (newPtr w0 x) ∧ W = ext ((ext w0 x.h x.d).alloc O) y.h y.d
  | true, true => ∃ x y : Gr, a' = a.put d (newPtr w0 x) ∧ W = ext ((ext w0 x.h x.d).alloc O') y.h y.d
  | false, true => False
theorem grown_alloc (x : Gr) (y : Gr) (O : Obj) : Grows w0 (ext ((ext w0 x.h x.d).alloc O) y.h y.d) := Grows.ext (Grows.alloc ⟨_, _, rfl⟩ O) _ _
theorem xAny_sound {j s : Nat} {Q : Act → Prop} {Q' : Exit → Act → World → Prop} {oj os : Oper} {O O' : Obj} (hsel : ∀ (j : Nat) (o : Oper) cs b, ops[j]? = some o → o.op ≠ .select cs b)
    (hj : ops[j]? = some oj) (hs : ops[s]? = some os) (hjs : j ≠ s) (hgj : oj.guard = none) (hgs : os.guard = none) (hds : os.dst = none) (hwait : Region.waitsFor md ops s j = true)
    (hap : ∀ i oi, ops[i]? = some oi → i ≠ j → i ≠ s → oj.apart ops oi = true)
    (hal : ∀ (a : Act) (w : World), (execOp a.eval oj).run P w = .ok (.value (.pointer (some ⟨w.heap.size, 0, none⟩))) (w.alloc O))
    (hQ : ∀ (a : Act) (x y : Gr), Q a → Q' .normal (a.put oj.dst (newPtr w0 x)) (ext ((ext w0 x.h x.d).alloc O') y.h y.d)) :
    ∀ (f : Nat) (listed : Array Bool) (a a' : Act) (W : World), listed.size = ops.size → stage w0 oj.dst O O' (listed.getD j false) (listed.getD s false) a a' W → xAny P md ops w0 j s (fills P w0 oj.dst os O O') Q f listed a → wpAny P md ops Q' f listed a' W := by
  have hjlt : j < ops.size := (Array.getElem?_eq_some_iff.1 hj).1
  have hslt : s < ops.size := (Array.getElem?_eq_some_iff.1 hs).1
  have fin : ∀ (listed : Array Bool) (a a' : Act) (W : World), stage w0 oj.dst O O' (listed.getD j false) (listed.getD s false) a a' W → listed.getD j false = true ∧ listed.getD s false = true → Q a → Q' .normal a' W := by
    intro listed a a' W hst hd hq
    rw [hd.1, hd.2] at hst
    obtain ⟨x, y, rfl, rfl⟩ := hst
    exact hQ a x y hq
  intro f
  induction f with
  | zero =>
    intro listed a a' W _ hst h
    exact ⟨h.1, fin listed a a' W hst h.2.1 h.2.2⟩
  | succ f ih =>
    intro listed a a' W hsz hst h
    refine ⟨fun h0 => fin listed a a' W hst (h.1 h0).1 (h.1 h0).2, fun i hi => ?_⟩
    have hx := h.2 i hi
    have hun := (mem_ready.1 hi).1
    have hsz2 : (listed.setIfInBounds i true).size = ops.size := by simpa using hsz
    by_cases hij : i = j
    · subst hij
      have e1 : listed.getD i false = false := getD_both hun
      have e2 : listed.getD s false = false := by
        cases hc : listed.getD s false with
        | false => rfl
        | true =>
          rw [e1, hc] at hst
          exact hst.elim
      rw [e1, e2] at hst
      obtain ⟨e5, x, rfl⟩ := hst
      obtain rfl : a = a' := e5.symm
      simp only [xOp, if_true] at hx
      unfold wpOp
      simp only [hj]
      rw [if_pos (by simp [Region.wanted, hgj])]
      refine .inl ?_
      unfold Oper.wp
      rw [hal]
      refine ih _ a _ _ hsz2 ?_ hx
      have e3 : (listed.setIfInBounds i true).getD i false = true := by simp [hsz, hjlt]
      have e4 : (listed.setIfInBounds i true).getD s false = false := by rw [getD_set_ne false hjs]; exact e2
      rw [e3, e4]
      exact ⟨x, Gr.mk #[] (ext w0 x.h x.d).drawn, rfl, by simp [ext, World.alloc, Gr.mk, Gr.h, Gr.d]⟩
    · by_cases his : i = s
      · subst his
        have e2 : listed.getD i false = false := getD_both hun
        obtain ⟨o2, ho2, e, he, hb, hon⟩ := Region.waitsFor_spec hwait
        have e1 : listed.getD j false = true := by
          obtain ⟨_, o3, ho3, hall⟩ := mem_ready.1 hi
          obtain rfl : o2 = o3 := Option.some.inj (ho2.symm.trans ho3)
          have := hall e he hb
          rwa [hon] at this
        rw [e1, e2] at hst
        obtain ⟨x, y, rfl, rfl⟩ := hst
        simp only [xOp, hij, if_false, if_true] at hx
        obtain ⟨hf, hx⟩ := hx
        unfold wpOp
        simp only [hs]
        rw [if_pos (by simp [Region.wanted, hgs])]
        refine .inl ?_
        have hf2 := hf x y
        have go : ∀ v, wpAny P md ops Q' f (listed.setIfInBounds i true) ((a.put oj.dst (newPtr w0 x)).put os.dst v) (ext ((ext w0 x.h x.d).alloc O') y.h y.d) := by
          intro v
          rw [hds]
          refine ih _ a _ _ hsz2 ?_ hx
          have e3 : (listed.setIfInBounds i true).getD i false = true := by simp [hsz, hslt]
          have e4 : (listed.setIfInBounds i true).getD j false = true := by rw [getD_set_ne false hij]; exact e1
          rw [e3, e4]
          exact ⟨x, y, rfl, rfl⟩
        unfold Oper.wp
        generalize (execOp (a.put oj.dst (newPtr w0 x)).eval os).run P _ = r at *
        cases r with
        | ok nx w' =>
          cases nx <;> simp only [fillUpon] at hf2 <;> simp only [Oper.upon]
          case value u =>
            rw [hf2]
            exact go u
          case skip =>
            rw [hf2]
            exact go _
        | halt q w' => simp only [fillUpon] at hf2
      · obtain ⟨oi, hoi⟩ : ∃ o, ops[i]? = some o := by
          obtain ⟨_, o, ho, _⟩ := mem_ready.1 hi
          exact ⟨o, ho⟩
        simp only [xOp, hij, his, if_false] at hx
        have e3 : (listed.setIfInBounds i true).getD j false = listed.getD j false := getD_set_ne false hij
        have e4 : (listed.setIfInBounds i true).getD s false = listed.getD s false := getD_set_ne false his
        cases hbj : listed.getD j false with
        | false =>
          cases hbs : listed.getD s false with
          | true =>
            rw [hbj, hbs] at hst
            exact hst.elim
          | false =>
            rw [hbj, hbs] at hst
            obtain ⟨rfl, x, rfl⟩ := hst
            refine wpOp_of_gOp hoi x rfl ?_ hx
            rintro a2 w2 ⟨y, d, rfl⟩ hk
            refine ih _ a2 a2 _ hsz2 ?_ hk
            rw [e3, e4, hbj, hbs]
            exact ⟨rfl, Gr.mk (x.h ++ y) d, ext_ext _ _ _ _ _⟩
        | true =>
          have fwd : ∀ (x y : Gr) (OO : Obj), a' = a.put oj.dst (newPtr w0 x) → W = ext ((ext w0 x.h x.d).alloc OO) y.h y.d →
              (∀ (a2 : Act) (y2 : Gr), stage w0 oj.dst O O' true (listed.getD s false) a2 (a2.put oj.dst (newPtr w0 x)) (ext ((ext w0 x.h x.d).alloc OO) y2.h y2.d)) → wpOp P ops Q' i (wpAny P md ops Q' f (listed.setIfInBounds i true)) a' W := by
            rintro x y OO rfl rfl hstage
            obtain ⟨z, dz, hz⟩ := grown_alloc (w0 := w0) x y OO
            refine wpOp_of_gOp hoi (Gr.mk z dz) hz ?_ (gOp_under (oi := oj) (v := newPtr w0 x) hoi (hap i oi hoi hij his) (fun cs b => hsel i oi cs b hoi) hx)
            rintro a3 w3 ⟨y3, d3, rfl⟩ ⟨a2, rfl, hk⟩
            refine ih _ a2 _ _ hsz2 ?_ hk
            rw [e3, e4, hbj, ext_ext]
            exact hstage a2 (Gr.mk (y.h ++ y3) d3)
          rw [hbj] at hst
          cases hbs : listed.getD s false with
          | false =>
            rw [hbs] at hst fwd
            obtain ⟨x, y, e5, e6⟩ := hst
            exact fwd x y O e5 e6 (fun a2 y2 => ⟨x, y2, rfl, rfl⟩)
          | true =>
            rw [hbs] at hst fwd
            obtain ⟨x, y, e5, e6⟩ := hst
            exact fwd x y O' e5 e6 (fun a2 y2 => ⟨x, y2, rfl, rfl⟩)
end
/-- The conditions on a region of this form, as a Bool. -/
def fillB (md : Region.Mode) (ops : Array Oper) (j s : Nat) : Bool :=
  Region.noSelect ops && decide (j ≠ s) && Region.waitsFor md ops s j && lexX md ops j s ops.size 0 (Array.replicate ops.size false) &&
  ((List.range ops.size).all fun i => i == j || i == s || match ops[i]?, ops[j]? with
    | some oi, some oj => oj.apart ops oi
    | _, _ => false)
theorem put_again (a : Act) (d : Option Tmp) (u v : Value) : (a.put d u).put d v = a.put d v := by
  cases d <;> simp [Act.put]
theorem fills_steady {P : Program} {ops : Array Oper} {w0 : World} {s : Nat} {d : Option Tmp} {os : Oper} {O O' : Obj} (hs : ops[s]? = some os) (hsel : ∀ cs b, os.op ≠ .select cs b) : Steady ops s (fills P w0 d os O O') := by
  intro os' hos' o a v hap
  obtain rfl : os' = os := Option.some.inj (hos'.symm.trans hs)
  have hap : os'.apart ops o = true := hap.elim id apart_symm
  obtain ⟨h1, h2, h3⟩ := Oper.apart_spec hap
  unfold fills
  have key : ∀ x : Gr, execOp ((a.put o.dst v).put d (newPtr w0 x)).eval os' = execOp (a.put d (newPtr w0 x)).eval os' := by
    intro x
    by_cases hd : o.dst = d
    · rw [hd, put_again]
    · have e : (a.put o.dst v).put d (newPtr w0 x) = (a.put d (newPtr w0 x)).put o.dst v := Act.put_comm a _ _ (fun t ht e => hd (ht.trans e.symm))
      rw [e]
      exact execOp_put (ops := ops) os' hsel _ o.dst v h3
  simp only [key]
/-- A region that makes a block (number j) and fills it (number s). -/
theorem wp_region_fill {P : Program} {id : Nat} {Q : Exit → Act → World → Prop} {a : Act} {w : World} {l : List Oper} (j s : Nat) (O : Obj) {O' : Obj} {oj os : Oper} (hm : P.follows .mixedOrders = true) (hB : fillB .any l.toArray j s = true) (hj : l[j]? = some oj) (hs : l[s]? = some os) (hgj : oj.guard = none) (hgs : os.guard = none) (hds : os.dst = none)
    (hal : ∀ (a : Act) (w : World), (execOp a.eval oj).run P w = .ok (.value (.pointer (some ⟨w.heap.size, 0, none⟩))) (w.alloc O))
    (h : xWalk P l.toArray w j s (fills P w oj.dst os O O') (fun a' => ∀ (x y : Gr), Q .normal (a'.put oj.dst (newPtr w x)) (ext ((ext w x.h x.d).alloc O') y.h y.d)) 0 l a) : (Code.region id l.toArray true).wp P Q a w := by
  simp only [fillB, Bool.and_eq_true, decide_eq_true_eq] at hB
  obtain ⟨⟨⟨⟨hsel, hjs⟩, hwait⟩, hlex⟩, hall⟩ := hB
  have hj' : l.toArray[j]? = some oj := by simpa using hj
  have hs' : l.toArray[s]? = some os := by simpa using hs
  have hsel' := Region.noSelect_spec hsel
  have hap : ∀ i oi, l.toArray[i]? = some oi → i ≠ j → i ≠ s → oj.apart l.toArray oi = true := by
    intro i oi hoi h1 h2
    have h3 := List.all_eq_true.1 hall i (List.mem_range.2 (Array.getElem?_eq_some_iff.1 hoi).1)
    simpa [h1, h2, hoi, hj'] using h3
  refine wp_region_any hm ?_
  have H := xAny_lex (P := P) (w0 := w) (md := .any) hsel' (fills_steady hs' (fun cs b => hsel' s os cs b hs')) l 0 (Array.replicate l.toArray.size false) a (by simp) (by simpa using hlex) h
  have H2 := xAny_sound (Q' := Q) hsel' hj' hs' hjs hgj hgs hds hwait hap hal (fun a x y hq => hq x y) _ _ a a { w with drawn := w.drawn + 1 } (by simp) (by
    rw [getD_replicate_false, getD_replicate_false]
    exact ⟨rfl, Gr.mk #[] (w.drawn + 1), by simp [ext, Gr.mk, Gr.h, Gr.d]⟩) H
  simpa using H2
/-- The same in a world that is grown already. -/
theorem wp_region_fill_ext {P : Program} {id : Nat} {Q : Exit → Act → World → Prop} {a : Act} {w : World} {h0 : Array Obj} {d0 : Nat} {l : List Oper} (j s : Nat) (O : Obj) {O' : Obj} {oj os : Oper} (hm : P.follows .mixedOrders = true) (hB : fillB .any l.toArray j s = true) (hj : l[j]? = some oj) (hs : l[s]? = some os) (hgj : oj.guard = none) (hgs : os.guard = none) (hds : os.dst = none)
    (hal : ∀ (a : Act) (w : World), (execOp a.eval oj).run P w = .ok (.value (.pointer (some ⟨w.heap.size, 0, none⟩))) (w.alloc O))
    (h : xWalk P l.toArray (ext w h0 d0) j s (fills P (ext w h0 d0) oj.dst os O O') (fun a' => ∀ (x y : Gr), Q .normal (a'.put oj.dst (newPtr w x)) (ext ((ext w x.h x.d).alloc O') y.h y.d)) 0 l a) : (Code.region id l.toArray true).wp P Q a (ext w h0 d0) := by
  refine wp_region_fill j s O hm hB hj hs hgj hgs hds hal (xWalk_mono (fun a' ha x y => ?_) l 0 a h)
  have := ha (Gr.mk (h0 ++ x.h) x.d) y
  simpa only [newPtr, ext_ext, Gr.h_mk, Gr.d_mk] using this
section
variable {P : Program} {ops : Array Oper} {w0 : World} {j s k : Nat} {S : Act → Prop} {Q : Act → Prop} {a : Act} {o : Oper} {l : List Oper}
theorem xWalk_nil (h : Q a) : xWalk P ops w0 j s S Q k [] a := h
theorem xWalk_make (hk : k = j) (h : xWalk P ops w0 j s S Q (k + 1) l a) : xWalk P ops w0 j s S Q k (o :: l) a := by
  unfold xWalk
  rw [if_pos hk]
  exact h
theorem xWalk_fill (hk : k ≠ j) (hs : k = s) (hS : S a) (h : xWalk P ops w0 j s S Q (k + 1) l a) : xWalk P ops w0 j s S Q k (o :: l) a := by
  unfold xWalk
  rw [if_neg hk, if_pos hs]
  exact ⟨hS, h⟩
theorem xWalk_op (hk : k ≠ j) (hs : k ≠ s) (h : ∀ K : Act → Prop, (∀ a, xWalk P ops w0 j s S Q (k + 1) l a → K a) → if Region.wanted o (yielded ops a.tmps) then opGrows P w0 o a K else K (a.put o.dst undef)) : xWalk P ops w0 j s S Q k (o :: l) a := by
  unfold xWalk
  rw [if_neg hk, if_neg hs]
  exact h _ (fun _ h => h)
end
end Go.Proofs.YtobbphkfdhjmdaaDoor

namespace Go.Proofs.YtobbphkfdhjmdaaDoor
/-- A frame with other values over some of its slots. -/
def overlay (a : Act) (f : Nat → Option Value) : Act := { a with tmps := a.tmps.mapIdx fun t v => (f t).getD v }
def over (f : Nat → Option Value) (d : Nat) (v : Value) : Nat → Option Value := fun t => if t = d then some v else f t
section
variable {a : Act} {f g : Nat → Option Value}
theorem overlay_none : overlay a (fun _ => none) = a := by
  obtain ⟨tm, df⟩ := a
  simp only [overlay, Act.mk.injEq, and_true]
  apply Array.ext_getElem?
  intro i
  simp [Array.getElem?_mapIdx]
theorem overlay_get (t : Nat) : (overlay a f).tmps[t]? = (a.tmps[t]?).map fun v => (f t).getD v := by simp [overlay, Array.getElem?_mapIdx]
theorem overlay_get_congr {t : Nat} (h : f t = g t) : (overlay a f).tmps[t]? = (overlay a g).tmps[t]? := by rw [overlay_get, overlay_get, h]
theorem overlay_put {d : Nat} {v : Value} : (overlay a f).put (some d) v = overlay a (over f d v) := by
  simp only [overlay, Act.put, Act.mk.injEq, and_true]
  apply Array.ext_getElem?
  intro i
  simp only [Array.getElem?_setIfInBounds, Array.getElem?_mapIdx, Array.size_mapIdx, over]
  by_cases hi : d = i
  · subst hi
    by_cases hl : d < a.tmps.size
    · simp [hl]
    · simp [hl]
  · have : ¬ i = d := fun e => hi e.symm
    simp [hi, this]
theorem overlay_put_under {d : Option Tmp} {v : Value} (h : ∀ t, d = some t → f t = none) : (overlay a f).put d v = overlay (a.put d v) f := by
  cases d with
  | none => rfl
  | some d =>
    have hf := h d rfl
    simp only [overlay, Act.put, Act.mk.injEq, and_true]
    apply Array.ext_getElem?
    intro i
    simp only [Array.getElem?_setIfInBounds, Array.getElem?_mapIdx, Array.size_mapIdx]
    by_cases hi : d = i
    · subst hi
      by_cases hl : d < a.tmps.size
      · simp [hl, hf]
      · simp [hl]
    · simp [hi]
theorem eval_overlay {x : Operand} (h : ∀ t, x = .tmp t → f t = g t) : (overlay a f).eval x = (overlay a g).eval x := by
  cases x with
  | tmp t =>
    have := overlay_get_congr (a := a) (h t rfl)
    simp only [Act.eval, Array.getD_eq_getD_getElem?, this]
  | const v => rfl
  | global n => rfl
  | func n => rfl
theorem execOp_overlay {ops : Array Oper} (o : Oper) (hs : ∀ cs b, o.op ≠ .select cs b) (h : ∀ t, t ∈ o.looksAt ops → f t = g t) : execOp (overlay a f).eval o = execOp (overlay a g).eval o :=
  execOp_congr o hs fun x hx => eval_overlay fun t ht => h t (by
    subst ht
    exact List.mem_append_left _ (List.mem_filterMap.2 ⟨.tmp t, by simpa using hx, rfl⟩))
theorem wanted_overlay {ops : Array Oper} (o : Oper) (h : ∀ t, t ∈ o.looksAt ops → f t = g t) : Region.wanted o (yielded ops (overlay a f).tmps) = Region.wanted o (yielded ops (overlay a g).tmps) := by
  unfold Region.wanted
  cases hg : o.guard with
  | none => rfl
  | some gw =>
    obtain ⟨q, want⟩ := gw
    have hy : yielded ops (overlay a f).tmps q = yielded ops (overlay a g).tmps q := by
      unfold yielded
      cases ht : (ops[q]?).bind (·.dst) with
      | none => rfl
      | some t =>
        have := overlay_get_congr (a := a) (h t (by simp [Oper.looksAt, hg, ht]))
        simp only [Option.bind_some, this]
    simp only [hy]
end
/-- Operation number i comes up: a special one asks S of the frame and leaves it; all others are quiet. -/
def spOp (P : Program) (ops : Array Oper) (w0 : World) (sp : Nat → Bool) (S : Nat → Act → Prop) (i : Nat) (K : Act → Prop) (a : Act) : Prop :=
  if sp i = true then S i a ∧ K a else gOp P ops w0 i K a
def spAny (P : Program) (md : Region.Mode) (ops : Array Oper) (w0 : World) (sp : Nat → Bool) (S : Nat → Act → Prop) (D : Array Bool → Prop) (Q : Act → Prop) : Nat → Array Bool → Act → Prop
  | 0, listed, a => Region.ready md ops listed = [] ∧ D listed ∧ Q a
  | f + 1, listed, a => (Region.ready md ops listed = [] → D listed ∧ Q a) ∧ ∀ i ∈ Region.ready md ops listed, spOp P ops w0 sp S i (spAny P md ops w0 sp S D Q f (listed.setIfInBounds i true)) a
section
variable {P : Program} {ops : Array Oper} {md : Region.Mode} {w0 : World} {sp : Nat → Bool} {S : Nat → Act → Prop} {D : Array Bool → Prop} {Q : Act → Prop}
def spKnown (P : Program) (ops : Array Oper) (w0 : World) (sp : Nat → Bool) (S : Nat → Act → Prop) (i : Nat) (o : Oper) (v : Value) (a : Act) : Prop :=
  if sp i = true then S i a else YieldsG P ops w0 o v a
def spPut (sp : Nat → Bool) (i : Nat) (o : Oper) (v : Value) (a : Act) : Act := if sp i = true then a else a.put o.dst v
theorem spOp_iff {i : Nat} {o : Oper} (hi : ops[i]? = some o) (K : Act → Prop) (a : Act) : spOp P ops w0 sp S i K a ↔ ∃ v, spKnown P ops w0 sp S i o v a ∧ K (spPut sp i o v a) := by
  unfold spOp spKnown spPut
  by_cases h1 : sp i = true
  · simp only [if_pos h1]
    exact ⟨fun ⟨p, q⟩ => ⟨undef, p, q⟩, fun ⟨_, p, q⟩ => ⟨p, q⟩⟩
  · simp only [if_neg h1]
    exact yieldsG_iff hi K a
theorem spOp_mono {i : Nat} {o : Oper} (hi : ops[i]? = some o) {a : Act} {K K' : Act → Prop} (h : ∀ a, K a → K' a) (hh : spOp P ops w0 sp S i K a) : spOp P ops w0 sp S i K' a := by
  rw [spOp_iff hi] at *
  obtain ⟨v, h1, h2⟩ := hh
  exact ⟨v, h1, h _ h2⟩
/-- S hangs on nothing that an operation apart from a special one writes. -/
def SpSteady (ops : Array Oper) (sp : Nat → Bool) (S : Nat → Act → Prop) : Prop := ∀ (i : Nat) (oi : Oper), sp i = true → ops[i]? = some oi → ∀ (o : Oper) (a : Act) (v : Value), oi.apart ops o = true → (S i (a.put o.dst v) ↔ S i a)
theorem spKnown_put {i k : Nat} {oi ok : Oper} {v u : Value} (hi : ops[i]? = some oi) (hap : oi.apart ops ok = true) (hsi : ∀ cs b, oi.op ≠ .select cs b) (hS : SpSteady ops sp S) {a : Act} :
    spKnown P ops w0 sp S i oi v (spPut sp k ok u a) ↔ spKnown P ops w0 sp S i oi v a := by
  obtain ⟨h1, h2, h3⟩ := Oper.apart_spec hap
  unfold spKnown spPut
  by_cases q1 : sp k = true
  · simp only [if_pos q1]
  · simp only [if_neg q1]
    by_cases p1 : sp i = true
    · simp only [if_pos p1]
      exact hS i oi p1 hi ok a u hap
    · simp only [if_neg p1]
      have e1 := execOp_put (ops := ops) oi hsi a ok.dst u h3
      have e2 := wanted_put (ops := ops) oi a ok.dst u h3
      exact ⟨fun h => h.of_same e1.symm e2.symm, fun h => h.of_same e1 e2⟩
theorem spPut_comm {i k : Nat} {oi ok : Oper} {v u : Value} (hap : oi.apart ops ok = true) (a : Act) : spPut sp k ok u (spPut sp i oi v a) = spPut sp i oi v (spPut sp k ok u a) := by
  obtain ⟨h1, h2, h3⟩ := Oper.apart_spec hap
  unfold spPut
  split <;> split <;> first | rfl | exact Act.put_comm a v u h2
theorem spOp_put {i k : Nat} {oi ok : Oper} {v : Value} (hi : ops[i]? = some oi) (hk : ops[k]? = some ok) (hap : oi.apart ops ok = true) (hsi : ∀ cs b, oi.op ≠ .select cs b) (hsk : ∀ cs b, ok.op ≠ .select cs b) (hS : SpSteady ops sp S) {K : Act → Prop} {a : Act}
    (hy : spKnown P ops w0 sp S i oi v a) (h : spOp P ops w0 sp S k K (spPut sp i oi v a)) : spOp P ops w0 sp S k (fun a' => spKnown P ops w0 sp S i oi v a' ∧ K (spPut sp i oi v a')) a := by
  rw [spOp_iff hk] at *
  obtain ⟨u, hu, hK⟩ := h
  refine ⟨u, (spKnown_put hk (apart_symm hap) hsk hS).1 hu, (spKnown_put hi hap hsi hS).2 hy, ?_⟩
  rw [← spPut_comm (oi := oi) (ok := ok) hap]
  exact hK
theorem spAny_first {i : Nat} {oi : Oper} {v : Value} (hi : ops[i]? = some oi) (hsel : ∀ (j : Nat) (o : Oper) cs b, ops[j]? = some o → o.op ≠ .select cs b) (hS : SpSteady ops sp S) :
    ∀ (f : Nat) (listed : Array Bool) (a : Act),
      (∀ k ok, ops[k]? = some ok → k ≠ i → listed.getD k true = false → (∀ e ∈ ok.after, Region.binds md e = true → e.on ≠ i) → oi.apart ops ok = true) →
      i ∈ Region.ready md ops listed → spKnown P ops w0 sp S i oi v a →
      spAny P md ops w0 sp S D Q f (listed.setIfInBounds i true) (spPut sp i oi v a) → spAny P md ops w0 sp S D Q (f + 1) listed a := by
  intro f
  induction f with
  | zero =>
    intro listed a hfree hr hy H
    refine ⟨fun h => (by rw [h] at hr; cases hr), fun k hk => ?_⟩
    by_cases hki : k = i
    · subst hki
      exact (spOp_iff hi _ _).2 ⟨v, hy, H⟩
    · have := ready_mono hk hki
      rw [H.1] at this
      cases this
  | succ f ih =>
    intro listed a hfree hr hy H
    refine ⟨fun h => (by rw [h] at hr; cases hr), fun k hk => ?_⟩
    by_cases hki : k = i
    · subst hki
      exact (spOp_iff hi _ _).2 ⟨v, hy, H⟩
    · have h1 := H.2 k (ready_mono hk hki)
      obtain ⟨hkun, ok, hok, hall⟩ := mem_ready.1 hk
      have hnot : ∀ e ∈ ok.after, Region.binds md e = true → e.on ≠ i := fun e he hb heq => by
        have h1 := hall e he hb
        rw [heq, getD_both (mem_ready.1 hr).1] at h1
        cases h1
      have h2 := spOp_put hi hok (hfree k ok hok hki hkun hnot) (fun cs b => hsel i oi cs b hi) (fun cs b => hsel k ok cs b hok) hS hy h1
      refine spOp_mono hok (fun a' h3 => ih (listed.setIfInBounds k true) a' (fun m om hm hmi hun hno => hfree m om hm hmi ?_ hno) (ready_mono hr (Ne.symm hki)) h3.1 ?_) h2
      · by_cases hkm : k = m
        · subst hkm
          exact hkun
        · rwa [getD_set_ne true hkm] at hun
      · rw [Array.setIfInBounds_comm _ _ hki]
        exact h3.2
/-- The walk in the order of the text. -/
def spWalk (P : Program) (ops : Array Oper) (w0 : World) (sp : Nat → Bool) (S : Nat → Act → Prop) (Q : Act → Prop) : Nat → List Oper → Act → Prop
  | _, [], a => Q a
  | k, o :: l, a => if sp k = true then S k a ∧ spWalk P ops w0 sp S Q (k + 1) l a
    else if Region.wanted o (yielded ops a.tmps) then opGrows P w0 o a (spWalk P ops w0 sp S Q (k + 1) l) else spWalk P ops w0 sp S Q (k + 1) l (a.put o.dst undef)
theorem spWalk_mono {Q2 : Act → Prop} (hQ : ∀ a, Q a → Q2 a) : ∀ (l : List Oper) (k : Nat) (a : Act), spWalk P ops w0 sp S Q k l a → spWalk P ops w0 sp S Q2 k l a
  | [], _, a, h => hQ a h
  | o :: l, k, a, h => by
    unfold spWalk at h ⊢
    by_cases h1 : sp k = true
    · rw [if_pos h1] at h ⊢
      exact ⟨h.1, spWalk_mono hQ l _ _ h.2⟩
    · rw [if_neg h1] at h ⊢
      split at h
      · rename_i hw
        rw [if_pos hw]
        obtain ⟨v, hv, hk⟩ := h
        exact ⟨v, hv, spWalk_mono hQ l _ _ hk⟩
      · rename_i hw
        rw [if_neg hw]
        exact spWalk_mono hQ l _ _ h
def lexS (md : Region.Mode) (ops : Array Oper) (Db : Array Bool → Bool) : Nat → Nat → Array Bool → Bool
  | 0, _, listed => (Region.ready md ops listed).isEmpty && Db listed
  | f + 1, k, listed => (Region.ready md ops listed).contains k && Region.free md ops listed k && lexS md ops Db f (k + 1) (listed.setIfInBounds k true)
theorem spAny_lex {Db : Array Bool → Bool} (hD : ∀ listed, Db listed = true → D listed) (hsel : ∀ (j : Nat) (o : Oper) cs b, ops[j]? = some o → o.op ≠ .select cs b) (hS : SpSteady ops sp S) :
    ∀ (l : List Oper) (k : Nat) (listed : Array Bool) (a : Act), (∀ m, l[m]? = ops[k + m]?) → lexS md ops Db l.length k listed = true → spWalk P ops w0 sp S Q k l a → spAny P md ops w0 sp S D Q l.length listed a
  | [], k, listed, a, _, hB, h => by
    simp only [List.length_nil, lexS, Bool.and_eq_true, List.isEmpty_iff] at hB
    exact ⟨hB.1, hD _ hB.2, h⟩
  | o :: l, k, listed, a, hl, hB, h => by
    have h0 : ops[k]? = some o := by simpa using (hl 0).symm
    simp only [List.length_cons, lexS, Bool.and_eq_true] at hB
    obtain ⟨⟨hr, hf⟩, hB'⟩ := hB
    have hst : spOp P ops w0 sp S k (spWalk P ops w0 sp S Q (k + 1) l) a := by
      unfold spOp
      unfold spWalk at h
      by_cases h1 : sp k = true
      · rw [if_pos h1] at h ⊢
        exact h
      · rw [if_neg h1] at h ⊢
        rw [gOp_some h0]
        exact h
    obtain ⟨v, hy, hK⟩ := (spOp_iff h0 _ _).1 hst
    exact spAny_first h0 hsel hS l.length listed a (Region.free_spec h0 hf) (by simpa using hr) hy
      (spAny_lex hD hsel hS l (k + 1) _ _ (fun m => by have := hl (m + 1); simpa [Nat.add_assoc, Nat.add_comm 1 m] using this) hB' hK)
end
/-- W2 is W with block n filled. -/
def FilledTo (W : World) (n : Nat) (O' : Obj) (W2 : World) : Prop := W2.heap[n]? = some O' ∧ (∀ k, k ≠ n → W2.heap[k]? = W.heap[k]?) ∧ W2.heap.size = W.heap.size ∧ W2.tape = W.tape ∧ W2.os = W.os ∧ W2.output = W.output
def fillsTo (W : World) (n : Nat) (O' : Obj) : Result Next → Prop
  | .ok (.value _) W2 => FilledTo W n O' W2
  | .ok .skip W2 => FilledTo W n O' W2
  | _ => False
theorem FilledTo.grows {w0 W W2 : World} {n : Nat} {O' : Obj} (h : FilledTo W n O' W2) (g : Grows w0 W) (hn : w0.heap.size ≤ n) : Grows w0 W2 := by
  obtain ⟨h1, h2, h3, h4, h5, h6⟩ := h
  have b := g.below
  exact Grows.of_below ⟨h5.trans b.os, h4.trans b.tape, h6.trans b.output, by rw [h3]; exact b.size, fun k hk => (h2 k (by omega)).trans (b.block k hk)⟩
def ptrTo (n : Nat) : Value := .pointer (some ⟨n, 0, none⟩)
theorem ptrTo_inj {n m : Nat} (h : ptrTo n = ptrTo m) : n = m := by
  unfold ptrTo at h
  injection h with h
  injection h with h
  exact congrArg Addr.block h
/-- A block that the region makes: who makes it, in which slot its address lies, who fills it, what it is at first and then. -/
def Mk : Type := Nat × Nat × Nat × Obj × Obj
def Mk.j (m : Mk) : Nat := m.1
def Mk.d (m : Mk) : Nat := m.2.1
def Mk.s (m : Mk) : Nat := m.2.2.1
def Mk.o (m : Mk) : Obj := m.2.2.2.1
def Mk.o' (m : Mk) : Obj := m.2.2.2.2
/-- The store of m fills its block, wherever that is. -/
def fillsM (P : Program) (ops : Array Oper) (m : Mk) (a : Act) : Prop :=
  ∀ (n : Nat) (W : World) (os : Oper), ops[m.s]? = some os → W.heap[n]? = some m.o → fillsTo W n m.o' ((execOp (a.put (some m.d) (ptrTo n)).eval os).run P W)
def isSp (mks : List Mk) (i : Nat) : Bool := mks.any fun m => m.j == i || m.s == i
def asks (P : Program) (ops : Array Oper) (mks : List Mk) (i : Nat) (a : Act) : Prop := ∀ m ∈ mks, m.s = i → fillsM P ops m a
/-- How far the blocks have come. -/
def Ov (w0 : World) (mks : List Mk) (listed : Array Bool) (f : Nat → Option Value) (W : World) : Prop :=
  Grows w0 W ∧ (∀ t v, f t = some v → ∃ m ∈ mks, m.d = t ∧ listed.getD m.j false = true) ∧
  (∀ m ∈ mks, listed.getD m.j false = true → ∃ n, f m.d = some (ptrTo n) ∧ w0.heap.size ≤ n ∧ W.heap[n]? = some (if listed.getD m.s false = true then m.o' else m.o)) ∧
  (∀ t t' n, f t = some (ptrTo n) → f t' = some (ptrTo n) → t = t') ∧
  (∀ m ∈ mks, listed.getD m.s false = true → listed.getD m.j false = true)
/-- What must hold of the makers and the fillers. -/
def MkOk (P : Program) (md : Region.Mode) (ops : Array Oper) (mks : List Mk) : Prop :=
  (∀ m ∈ mks, ∃ oj os, ops[m.j]? = some oj ∧ ops[m.s]? = some os ∧ oj.dst = some m.d ∧ oj.guard = none ∧ os.guard = none ∧ os.dst = none ∧ Region.waitsFor md ops m.s m.j = true ∧
    (∀ (a : Act) (w : World), (execOp a.eval oj).run P w = .ok (.value (ptrTo w.heap.size)) (w.alloc m.o))) ∧
  (∀ m ∈ mks, ∀ m' ∈ mks, (m.j = m'.j ∨ m.s = m'.s ∨ m.d = m'.d → m = m') ∧ m.j ≠ m'.s) ∧
  (∀ i oi, ops[i]? = some oi → isSp mks i = false → ∀ m ∈ mks, ∀ oj, ops[m.j]? = some oj → oj.apart ops oi = true) ∧
  (∀ m ∈ mks, ∀ m' ∈ mks, m ≠ m' → ∀ oj os, ops[m.j]? = some oj → ops[m'.s]? = some os → oj.apart ops os = true)
section
variable {P : Program} {ops : Array Oper} {md : Region.Mode} {w0 : World} {mks : List Mk} {D : Array Bool → Prop} {Q : Act → Prop}
theorem Ov.step {listed : Array Bool} {f : Nat → Option Value} {W W2 : World} (h : Ov w0 mks listed f W) {i : Nat} (hi : isSp mks i = false) (g : Grows W W2) : Ov w0 mks (listed.setIfInBounds i true) f W2 := by
  obtain ⟨h1, h2, h3, h4, h5⟩ := h
  have hne : ∀ m ∈ mks, i ≠ m.j ∧ i ≠ m.s := by
    intro m hm
    constructor <;> (rintro rfl; rw [isSp, List.any_eq_false] at hi; have := hi m hm; simp at this)
  refine ⟨h1.trans g, fun t v ht => ?_, fun m hm hl => ?_, h4, fun m hm hl => ?_⟩
  · obtain ⟨m, hm, hd, hl⟩ := h2 t v ht
    exact ⟨m, hm, hd, by rw [getD_set_ne false (hne m hm).1]; exact hl⟩
  · rw [getD_set_ne false (hne m hm).1] at hl
    rw [getD_set_ne false (hne m hm).2]
    obtain ⟨n, hf, hn, hW⟩ := h3 m hm hl
    have hlt : n < W.heap.size := by
      rcases Nat.lt_or_ge n W.heap.size with h' | h'
      · exact h'
      · rw [Array.getElem?_eq_none h'] at hW; cases hW
    exact ⟨n, hf, hn, (g.below.block n hlt).trans hW⟩
  · rw [getD_set_ne false (hne m hm).1]
    rw [getD_set_ne false (hne m hm).2] at hl
    exact h5 m hm hl
theorem getD_set_same {listed : Array Bool} {i : Nat} (h : i < listed.size) : (listed.setIfInBounds i true).getD i false = true := by simp [h]
theorem lt_of_some {W : World} {n : Nat} {o : Obj} (h : W.heap[n]? = some o) : n < W.heap.size := by
  rcases Nat.lt_or_ge n W.heap.size with h' | h'
  · exact h'
  · rw [Array.getElem?_eq_none h'] at h
    cases h
theorem Ov.make {listed : Array Bool} {f : Nat → Option Value} {W : World} (h : Ov w0 mks listed f W) (hok : MkOk P md ops mks) {m : Mk} (hm : m ∈ mks) (hlt : m.j < listed.size) (hun : listed.getD m.j false = false) : Ov w0 mks (listed.setIfInBounds m.j true) (over f m.d (ptrTo W.heap.size)) (W.alloc m.o) := by
  obtain ⟨h1, h2, h3, h4, h5⟩ := h
  obtain ⟨k1, k2, k3, k4⟩ := hok
  have hs : listed.getD m.s false = false := by
    cases hc : listed.getD m.s false with
    | false => rfl
    | true =>
      rw [h5 m hm hc] at hun
      cases hun
  have old : ∀ t n, f t = some (ptrTo n) → n < W.heap.size := by
    intro t n ht
    obtain ⟨m', hm', hd, hl⟩ := h2 t _ ht
    obtain ⟨n', hf', _, hW⟩ := h3 m' hm' hl
    rw [hd, ht] at hf'
    obtain rfl : n = n' := ptrTo_inj (Option.some.inj hf')
    exact lt_of_some hW
  refine ⟨h1.alloc _, fun t v ht => ?_, fun m' hm' hl => ?_, fun t t' n ht ht' => ?_, fun m' hm' hl => ?_⟩
  · unfold over at ht
    split at ht
    · rename_i e
      exact ⟨m, hm, e.symm, getD_set_same hlt⟩
    · obtain ⟨m', hm', hd, hl⟩ := h2 t v ht
      exact ⟨m', hm', hd, getD_set_true hl⟩
  · by_cases e : m'.j = m.j
    · obtain rfl : m' = m := (k2 m' hm' m hm).1 (.inl e)
      refine ⟨W.heap.size, by simp [over], h1.below.size, ?_⟩
      rw [getD_set_ne false (k2 m' hm' m' hm').2, hs, if_neg Bool.false_ne_true]
      exact heap_alloc_new W m'.o
    · rw [getD_set_ne false (Ne.symm e)] at hl
      obtain ⟨n, hf, hn, hW⟩ := h3 m' hm' hl
      refine ⟨n, ?_, hn, ?_⟩
      · unfold over
        rw [if_neg (fun ed => e (by rw [(k2 m' hm' m hm).1 (.inr (.inr ed))]))]
        exact hf
      · rw [getD_set_ne false (k2 m hm m' hm').2, heap_alloc_old _ _ (lt_of_some hW)]
        exact hW
  · unfold over at ht ht'
    split at ht <;> split at ht'
    · rename_i e e'
      exact e.trans e'.symm
    · have := old _ _ ht'
      rw [ptrTo_inj (Option.some.inj ht)] at this
      omega
    · have := old _ _ ht
      rw [ptrTo_inj (Option.some.inj ht')] at this
      omega
    · exact h4 t t' n ht ht'
  · rw [getD_set_ne false (k2 m hm m' hm').2] at hl
    exact getD_set_true (h5 m' hm' hl)
theorem Ov.fill {listed : Array Bool} {f : Nat → Option Value} {W W2 : World} (h : Ov w0 mks listed f W) (hok : MkOk P md ops mks) {m : Mk} (hm : m ∈ mks) (hlt : m.s < listed.size) (hl0 : listed.getD m.j false = true) {n : Nat} (hn : f m.d = some (ptrTo n)) (hF : FilledTo W n m.o' W2) : Ov w0 mks (listed.setIfInBounds m.s true) f W2 := by
  obtain ⟨h1, h2, h3, h4, h5⟩ := h
  obtain ⟨k1, k2, k3, k4⟩ := hok
  obtain ⟨n0, hf0, hn0, _⟩ := h3 m hm hl0
  obtain rfl : n = n0 := ptrTo_inj (Option.some.inj (hn.symm.trans hf0))
  refine ⟨hF.grows h1 hn0, fun t v ht => ?_, fun m' hm' hl => ?_, h4, fun m' hm' hl => ?_⟩
  · obtain ⟨m', hm', hd, hl⟩ := h2 t v ht
    exact ⟨m', hm', hd, getD_set_true hl⟩
  · rw [getD_set_ne false (Ne.symm (k2 m' hm' m hm).2)] at hl
    obtain ⟨n', hf', hn', hW'⟩ := h3 m' hm' hl
    refine ⟨n', hf', hn', ?_⟩
    by_cases e : m'.s = m.s
    · obtain rfl : m' = m := (k2 m' hm' m hm).1 (.inr (.inl e))
      obtain rfl : n' = n := ptrTo_inj (Option.some.inj (hf'.symm.trans hn))
      rw [getD_set_same hlt, if_pos rfl]
      exact hF.1
    · rw [getD_set_ne false (Ne.symm e), hF.2.1 n' (fun en => ?_)]
      · exact hW'
      · subst en
        exact e (by rw [(k2 m' hm' m hm).1 (.inr (.inr (h4 _ _ _ hf' hn)))])
  · by_cases e : m'.s = m.s
    · obtain rfl : m' = m := (k2 m' hm' m hm).1 (.inr (.inl e))
      exact getD_set_true hl0
    · rw [getD_set_ne false (Ne.symm e)] at hl
      exact getD_set_true (h5 m' hm' hl)
theorem gOp_overlay {i : Nat} {oi : Oper} {f : Nat → Option Value} (hi : ops[i]? = some oi) (hsi : ∀ cs b, oi.op ≠ .select cs b) (hl : ∀ t, t ∈ oi.looksAt ops → f t = none) (hd : ∀ t, oi.dst = some t → f t = none) {K : Act → Prop} {a : Act} (h : gOp P ops w0 i K a) :
    gOp P ops w0 i (fun a' => ∃ a'', a' = overlay a'' f ∧ K a'') (overlay a f) := by
  rw [yieldsG_iff hi] at *
  obtain ⟨u, hu, hk⟩ := h
  have e1 : execOp (overlay a f).eval oi = execOp a.eval oi := by
    have := execOp_overlay (a := a) (f := f) (g := fun _ => none) (ops := ops) oi hsi hl
    rwa [overlay_none] at this
  have e2 : Region.wanted oi (yielded ops (overlay a f).tmps) = Region.wanted oi (yielded ops a.tmps) := by
    have := wanted_overlay (a := a) (f := f) (g := fun _ => none) (ops := ops) oi hl
    rwa [overlay_none] at this
  exact ⟨u, hu.of_same e1 e2, _, overlay_put_under hd, hk⟩
theorem sp_sound {Q' : Exit → Act → World → Prop} (hsel : ∀ (j : Nat) (o : Oper) cs b, ops[j]? = some o → o.op ≠ .select cs b) (hok : MkOk P md ops mks)
    (hD : ∀ listed, D listed → ∀ m ∈ mks, listed.getD m.j false = true ∧ listed.getD m.s false = true)
    (hQ : ∀ a f W, Q a → Grows w0 W → (∀ m ∈ mks, ∃ n, f m.d = some (ptrTo n) ∧ w0.heap.size ≤ n ∧ W.heap[n]? = some m.o') → (∀ t t' n, f t = some (ptrTo n) → f t' = some (ptrTo n) → t = t') → (∀ t v, f t = some v → ∃ m ∈ mks, m.d = t) → Q' .normal (overlay a f) W) :
    ∀ (fuel : Nat) (listed : Array Bool) (a : Act) (f : Nat → Option Value) (W : World), listed.size = ops.size → Ov w0 mks listed f W → spAny P md ops w0 (isSp mks) (asks P ops mks) D Q fuel listed a → wpAny P md ops Q' fuel listed (overlay a f) W := by
  have fin : ∀ (listed : Array Bool) (a : Act) (f : Nat → Option Value) (W : World), Ov w0 mks listed f W → D listed ∧ Q a → Q' .normal (overlay a f) W := by
    rintro listed a f W ⟨h1, h2, h3, h4, h5⟩ ⟨hd, hq⟩
    refine hQ a f W hq h1 (fun m hm => ?_) h4 (fun t v ht => ?_)
    · obtain ⟨n, hf, hn, hW⟩ := h3 m hm (hD listed hd m hm).1
      rw [(hD listed hd m hm).2, if_pos rfl] at hW
      exact ⟨n, hf, hn, hW⟩
    · obtain ⟨m, hm, hd, _⟩ := h2 t v ht
      exact ⟨m, hm, hd⟩
  have hok' := hok
  obtain ⟨k1, k2, k3, k4⟩ := hok'
  intro fuel
  induction fuel with
  | zero =>
    intro listed a f W _ hov h
    exact ⟨h.1, fin listed a f W hov h.2⟩
  | succ fuel ih =>
    intro listed a f W hsz hov h
    refine ⟨fun h0 => fin listed a f W hov (h.1 h0), fun i hi => ?_⟩
    have hx := h.2 i hi
    obtain ⟨hun, oi, hoi, hall⟩ := mem_ready.1 hi
    have hilt : i < ops.size := (Array.getElem?_eq_some_iff.1 hoi).1
    have hsz2 : (listed.setIfInBounds i true).size = ops.size := by simpa using hsz
    cases hsp : isSp mks i with
    | false =>
      have hx2 : gOp P ops w0 i (spAny P md ops w0 (isSp mks) (asks P ops mks) D Q fuel (listed.setIfInBounds i true)) a := by
        unfold spOp at hx
        rw [hsp, if_neg Bool.false_ne_true] at hx
        exact hx
      have hdom : ∀ t v, f t = some v → ∃ m ∈ mks, m.d = t := fun t v ht => by
        obtain ⟨m, hm, hd, _⟩ := hov.2.1 t v ht
        exact ⟨m, hm, hd⟩
      have hfree : ∀ t, (t ∈ oi.looksAt ops ∨ oi.dst = some t) → f t = none := by
        intro t ht
        cases hf : f t with
        | none => rfl
        | some v =>
          obtain ⟨m, hm, hd⟩ := hdom t v hf
          obtain ⟨oj, os, hoj, hos, hdj, _⟩ := k1 m hm
          obtain ⟨q1, q2, q3⟩ := Oper.apart_spec (k3 i oi hoi hsp m hm oj hoj)
          subst hd
          rcases ht with ht | ht
          · exact absurd ht (q1 _ hdj)
          · exact absurd ht (q2 _ hdj)
      obtain ⟨x, d, hxd⟩ := hov.1
      refine wpOp_of_gOp hoi (Gr.mk x d) hxd ?_ (gOp_overlay (f := f) hoi (fun cs b => hsel i oi cs b hoi) (fun t ht => hfree t (.inl ht)) (fun t ht => hfree t (.inr ht)) hx2)
      rintro a2 w2 gw ⟨a'', rfl, hk⟩
      exact ih _ a'' f w2 hsz2 (hov.step hsp gw) hk
    | true =>
      have hx2 : asks P ops mks i a ∧ spAny P md ops w0 (isSp mks) (asks P ops mks) D Q fuel (listed.setIfInBounds i true) a := by
        unfold spOp at hx
        rw [hsp, if_pos rfl] at hx
        exact hx
      obtain ⟨m, hm, hmi⟩ := List.any_eq_true.1 hsp
      simp only [Bool.or_eq_true, beq_iff_eq] at hmi
      obtain ⟨oj, os, hoj, hos, hdj, hgj, hgs, hds, hw, hal⟩ := k1 m hm
      rcases hmi with rfl | rfl
      · obtain rfl : oi = oj := Option.some.inj (hoi.symm.trans hoj)
        unfold wpOp
        simp only [hoi]
        rw [if_pos (by simp [Region.wanted, hgj])]
        refine .inl ?_
        unfold Oper.wp
        rw [hal]
        show wpAny P md ops Q' fuel _ ((overlay a f).put oi.dst (ptrTo W.heap.size)) (W.alloc m.o)
        rw [hdj, overlay_put]
        exact ih _ a _ _ hsz2 (hov.make hok hm (by omega) (getD_both hun)) hx2.2
      · obtain rfl : oi = os := Option.some.inj (hoi.symm.trans hos)
        have hl0 : listed.getD m.j false = true := by
          obtain ⟨o2, ho2, e, he, hb, hon⟩ := Region.waitsFor_spec hw
          obtain rfl : o2 = oi := Option.some.inj (ho2.symm.trans hoi)
          have := hall e he hb
          rwa [hon] at this
        obtain ⟨n, hf, hn, hW⟩ := hov.2.2.1 m hm hl0
        rw [getD_both hun, if_neg Bool.false_ne_true] at hW
        have hF := hx2.1 m hm rfl n W oi hoi hW
        have hev : execOp (overlay a f).eval oi = execOp (a.put (some m.d) (ptrTo n)).eval oi := by
          have e0 : a.put (some m.d) (ptrTo n) = overlay a (over (fun _ => none) m.d (ptrTo n)) := by rw [← overlay_put, overlay_none]
          rw [e0]
          refine execOp_overlay (ops := ops) oi (fun cs b => hsel _ oi cs b hoi) (fun t ht => ?_)
          unfold over
          by_cases e : t = m.d
          · rw [if_pos e, e]
            exact hf
          · rw [if_neg e]
            cases hft : f t with
            | none => rfl
            | some v =>
              obtain ⟨m', hm', hd', _⟩ := hov.2.1 t v hft
              obtain ⟨oj', _, hoj', _, hdj', _⟩ := k1 m' hm'
              have hne : m' ≠ m := fun em => e (by rw [← hd', em])
              obtain ⟨q1, _, _⟩ := Oper.apart_spec (k4 m' hm' m hm hne oj' oi hoj' hoi)
              exact absurd ht (q1 t (by rw [hdj', hd']))
        have go : ∀ v W2, FilledTo W n m.o' W2 → wpAny P md ops Q' fuel (listed.setIfInBounds m.s true) ((overlay a f).put oi.dst v) W2 := by
          intro v W2 hFT
          rw [hds]
          exact ih _ a f W2 hsz2 (hov.fill hok hm (by omega) hl0 hf hFT) hx2.2
        unfold wpOp
        simp only [hoi]
        rw [if_pos (by simp [Region.wanted, hgs])]
        refine .inl ?_
        unfold Oper.wp
        rw [hev]
        generalize (execOp (a.put (some m.d) (ptrTo n)).eval oi).run P W = r at *
        cases r with
        | ok nx w' =>
          cases nx <;> simp only [fillsTo] at hF <;> simp only [Oper.upon]
          case value u => exact go u w' hF
          case skip => exact go _ w' hF
        | halt q w' => simp only [fillsTo] at hF
end
/-- The conditions on a region of this form, as a Bool. -/
def makesB (md : Region.Mode) (ops : Array Oper) (mks : List Mk) : Bool :=
  Region.noSelect ops && (mks.all fun m => match ops[m.j]?, ops[m.s]? with
    | some oj, some os => oj.dst == some m.d && oj.guard.isNone && os.guard.isNone && os.dst.isNone && Region.waitsFor md ops m.s m.j
    | _, _ => false) &&
  ((List.range mks.length).all fun p => (List.range mks.length).all fun q => match mks[p]?, mks[q]? with
    | some m, some m' => (p == q || (m.j != m'.j && m.s != m'.s && m.d != m'.d && match ops[m.j]?, ops[m'.s]? with
        | some oj, some os => oj.apart ops os
        | _, _ => false)) && m.j != m'.s
    | _, _ => false) &&
  ((List.range ops.size).all fun i => isSp mks i || mks.all fun m => match ops[i]?, ops[m.j]? with
    | some oi, some oj => oj.apart ops oi
    | _, _ => false) &&
  lexS md ops (fun listed => mks.all fun m => listed.getD m.j false && listed.getD m.s false) ops.size 0 (Array.replicate ops.size false)
theorem mkOk_of {P : Program} {md : Region.Mode} {ops : Array Oper} {mks : List Mk} (hB : makesB md ops mks = true) (hal : ∀ m ∈ mks, ∀ oj, ops[m.j]? = some oj → ∀ (a : Act) (w : World), (execOp a.eval oj).run P w = .ok (.value (ptrTo w.heap.size)) (w.alloc m.o)) : MkOk P md ops mks := by
  simp only [makesB, Bool.and_eq_true] at hB
  obtain ⟨⟨⟨⟨_, h1⟩, h2⟩, h3⟩, _⟩ := hB
  have pair : ∀ m ∈ mks, ∀ m' ∈ mks, (m = m' ∨ (m.j ≠ m'.j ∧ m.s ≠ m'.s ∧ m.d ≠ m'.d ∧ ∀ oj os, ops[m.j]? = some oj → ops[m'.s]? = some os → oj.apart ops os = true)) ∧ m.j ≠ m'.s := by
    intro m hm m' hm'
    obtain ⟨p, hp, rfl⟩ := List.getElem_of_mem hm
    obtain ⟨q, hq, rfl⟩ := List.getElem_of_mem hm'
    have h4 := List.all_eq_true.1 (List.all_eq_true.1 h2 p (List.mem_range.2 hp)) q (List.mem_range.2 hq)
    simp only [List.getElem?_eq_getElem hp, List.getElem?_eq_getElem hq, Bool.and_eq_true, Bool.or_eq_true, beq_iff_eq, bne_iff_ne, ne_eq] at h4
    refine ⟨?_, h4.2⟩
    rcases h4.1 with rfl | ⟨⟨⟨e1, e2⟩, e3⟩, e4⟩
    · exact .inl rfl
    · refine .inr ⟨e1, e2, e3, fun oj os hoj hos => ?_⟩
      simpa only [hoj, hos] using e4
  refine ⟨fun m hm => ?_, fun m hm m' hm' => ⟨fun h => ?_, (pair m hm m' hm').2⟩, fun i oi hoi hsp m hm oj hoj => ?_, fun m hm m' hm' hne oj os hoj hos => ?_⟩
  · have h4 := List.all_eq_true.1 h1 m hm
    cases hoj : ops[m.j]? with
    | none => rw [hoj] at h4; cases h4
    | some oj =>
      cases hos : ops[m.s]? with
      | none => rw [hoj, hos] at h4; cases h4
      | some os =>
        rw [hoj, hos] at h4
        simp only [Bool.and_eq_true, beq_iff_eq, Option.isNone_iff_eq_none] at h4
        obtain ⟨⟨⟨⟨e1, e2⟩, e3⟩, e4⟩, e5⟩ := h4
        exact ⟨oj, os, rfl, rfl, e1, e2, e3, e4, e5, hal m hm oj hoj⟩
  · rcases (pair m hm m' hm').1 with e | ⟨e1, e2, e3, _⟩
    · exact e
    · rcases h with h | h | h
      · exact absurd h e1
      · exact absurd h e2
      · exact absurd h e3
  · have h4 := List.all_eq_true.1 h3 i (List.mem_range.2 (Array.getElem?_eq_some_iff.1 hoi).1)
    rw [hsp, Bool.false_or] at h4
    have h5 := List.all_eq_true.1 h4 m hm
    simpa only [hoi, hoj] using h5
  · rcases (pair m hm m' hm').1 with e | ⟨_, _, _, e4⟩
    · exact absurd e hne
    · exact e4 oj os hoj hos
theorem asks_steady {P : Program} {ops : Array Oper} {mks : List Mk} (hsel : ∀ (j : Nat) (o : Oper) cs b, ops[j]? = some o → o.op ≠ .select cs b) : SpSteady ops (isSp mks) (asks P ops mks) := by
  intro i oi _ hoi o a v hap
  obtain ⟨h1, h2, h3⟩ := Oper.apart_spec hap
  unfold asks fillsM
  have key : ∀ (m : Mk) (n : Nat), execOp ((a.put o.dst v).put (some m.d) (ptrTo n)).eval oi = execOp (a.put (some m.d) (ptrTo n)).eval oi := by
    intro m n
    by_cases hd : o.dst = some m.d
    · rw [hd, put_again]
    · have e : (a.put o.dst v).put (some m.d) (ptrTo n) = (a.put (some m.d) (ptrTo n)).put o.dst v := Act.put_comm a _ _ (fun t ht e => hd (ht.trans e.symm))
      rw [e]
      exact execOp_put (ops := ops) oi (fun cs b => hsel i oi cs b hoi) _ o.dst v h3
  constructor
  · intro h m hm hs n W os hos hW
    have := h m hm hs n W os hos hW
    subst hs
    obtain rfl : os = oi := Option.some.inj (hos.symm.trans hoi)
    rwa [key] at this
  · intro h m hm hs n W os hos hW
    have := h m hm hs n W os hos hW
    subst hs
    obtain rfl : os = oi := Option.some.inj (hos.symm.trans hoi)
    rwa [key]
/-- A region that makes blocks and fills each. -/
theorem wp_region_makes {P : Program} {id : Nat} {Q : Exit → Act → World → Prop} {a : Act} {w : World} {l : List Oper} (mks : List Mk) (hm : P.follows .mixedOrders = true) (hB : makesB .any l.toArray mks = true)
    (hal : ∀ m ∈ mks, ∀ oj, l.toArray[m.j]? = some oj → ∀ (a : Act) (w : World), (execOp a.eval oj).run P w = .ok (.value (ptrTo w.heap.size)) (w.alloc m.o))
    (h : spWalk P l.toArray w (isSp mks) (asks P l.toArray mks) (fun a' => ∀ f W, Grows w W → (∀ m ∈ mks, ∃ n, f m.d = some (ptrTo n) ∧ w.heap.size ≤ n ∧ W.heap[n]? = some m.o') → (∀ t t' n, f t = some (ptrTo n) → f t' = some (ptrTo n) → t = t') → (∀ t v, f t = some v → ∃ m ∈ mks, m.d = t) → Q .normal (overlay a' f) W) 0 l a) : (Code.region id l.toArray true).wp P Q a w := by
  have hB' := hB
  simp only [makesB, Bool.and_eq_true] at hB'
  obtain ⟨⟨⟨⟨hsel, _⟩, _⟩, _⟩, hlex⟩ := hB'
  have hsel' := Region.noSelect_spec hsel
  refine wp_region_any hm ?_
  have hDb : ∀ listed : Array Bool, (mks.all fun m => listed.getD m.j false && listed.getD m.s false) = true → ∀ m ∈ mks, listed.getD m.j false = true ∧ listed.getD m.s false = true := by
    intro listed hd m hm
    have := List.all_eq_true.1 hd m hm
    rwa [Bool.and_eq_true] at this
  have H := spAny_lex (P := P) (w0 := w) (md := .any) (D := fun listed => ∀ m ∈ mks, listed.getD m.j false = true ∧ listed.getD m.s false = true) (Db := fun listed => mks.all fun m => listed.getD m.j false && listed.getD m.s false) hDb hsel' (asks_steady hsel') l 0 (Array.replicate l.toArray.size false) a (by simp) (by simpa using hlex) h
  have hov : Ov w mks (Array.replicate l.toArray.size false) (fun _ => none) { w with drawn := w.drawn + 1 } := by
    have no : ∀ k, (Array.replicate l.toArray.size false).getD k false = true → False := fun k hk => by
      rw [getD_replicate_false] at hk
      cases hk
    exact ⟨⟨#[], w.drawn + 1, by simp [ext]⟩, fun t v ht => (by cases ht), fun m _ hl => (no _ hl).elim, fun t t' n ht => (by cases ht), fun m _ hl => (no _ hl).elim⟩
  have H2 := sp_sound (Q' := Q) hsel' (mkOk_of hB hal) (fun listed hd => hd) (fun a f W hq => hq f W) _ _ a (fun _ => none) { w with drawn := w.drawn + 1 } (by simp) hov H
  rw [overlay_none] at H2
  simpa using H2
theorem filledTo_setRow {W : World} {n : Nat} {old cells : Array Value} {t : TypeId} {fr : Nat × Nat} (h : W.heap[n]? = some (.cells old t fr)) : FilledTo W n (.cells cells t fr) (W.setRow n cells) := by
  refine ⟨setRow_heap W n old cells t fr h, fun k hk => ?_, by simp [World.setRow], rfl, rfl, rfl⟩
  simp only [World.setRow, Array.getElem?_modify]
  rw [if_neg (Ne.symm hk)]
/-- A store of a whole row fills the block. -/
theorem fillsM_store {P : Program} {ops : Array Oper} {m : Mk} {a : Act} {os : Oper} (hos : ops[m.s]? = some os) (ty : TypeId) (x y : Operand) (ho : os.op = .store ty x y) (old cells : Array Value) (t : TypeId) (hO : m.o = .cells old t (0, 0)) (hO' : m.o' = .cells cells t (0, 0))
    (hx : ∀ n, (a.put (some m.d) (ptrTo n)).eval x = ptrTo n) (hy : ∀ n, (a.put (some m.d) (ptrTo n)).eval y = .agg cells) (hi : (P.info? ty).map (·.size) = some cells.size) (hold : old.size = cells.size) (h1 : cells.all (·.oneCell') = true) : fillsM P ops m a := by
  intro n W os' hos' hW
  obtain rfl : os' = os := Option.some.inj (hos'.symm.trans hos)
  rw [hO] at hW
  rw [hO']
  have hr := run_storeVar_row (P := P) W n t ty old cells hW hi hold h1
  have hF := filledTo_setRow (cells := cells) hW
  have hx' := hx n
  have hy' := hy n
  simp only [ptrTo] at hx' hy'
  have e : (execOp (a.put (some m.d) (ptrTo n)).eval os').run P W = .ok .skip (W.setRow n cells) := by
    unfold execOp
    simp only [ho, ptrTo, hx', hy', Instr.storeAt, Instr.sureAddr, Sem.run_bind, Sem.run_pure, Result.andThen_ok, hr]
  rw [e]
  exact hF
section
variable {P : Program} {ops : Array Oper} {w0 : World} {sp : Nat → Bool} {S : Nat → Act → Prop} {Q : Act → Prop} {k : Nat} {a : Act} {o : Oper} {l : List Oper}
theorem spWalk_nil (h : Q a) : spWalk P ops w0 sp S Q k [] a := h
theorem spWalk_sp (hk : sp k = true) (hS : S k a) (h : spWalk P ops w0 sp S Q (k + 1) l a) : spWalk P ops w0 sp S Q k (o :: l) a := by
  unfold spWalk
  rw [if_pos hk]
  exact ⟨hS, h⟩
theorem spWalk_op (hk : sp k = false) (h : ∀ K : Act → Prop, (∀ a, spWalk P ops w0 sp S Q (k + 1) l a → K a) → if Region.wanted o (yielded ops a.tmps) then opGrows P w0 o a K else K (a.put o.dst undef)) : spWalk P ops w0 sp S Q k (o :: l) a := by
  unfold spWalk
  rw [if_neg (by rw [hk]; exact Bool.false_ne_true)]
  exact h _ (fun _ h => h)
end
theorem overlay_two {a : Act} {f : Nat → Option Value} {d1 d2 : Nat} {p1 p2 : Value} (h1 : f d1 = some p1) (h2 : f d2 = some p2) (hdom : ∀ t v, f t = some v → t = d1 ∨ t = d2) : overlay a f = (a.put (some d1) p1).put (some d2) p2 := by
  have e : f = over (over (fun _ => none) d1 p1) d2 p2 := by
    funext t
    unfold over
    by_cases e2 : t = d2
    · rw [if_pos e2, e2, h2]
    · rw [if_neg e2]
      by_cases e1 : t = d1
      · rw [if_pos e1, e1, h1]
      · rw [if_neg e1]
        cases hf : f t with
        | none => rfl
        | some v => exact ((hdom t v hf).elim e1 e2).elim
  rw [e, ← overlay_put, ← overlay_put, overlay_none]
theorem overlay_three {a : Act} {f : Nat → Option Value} {d1 d2 d3 : Nat} {p1 p2 p3 : Value} (h1 : f d1 = some p1) (h2 : f d2 = some p2) (h3 : f d3 = some p3) (hdom : ∀ t v, f t = some v → t = d1 ∨ t = d2 ∨ t = d3) : overlay a f = ((a.put (some d1) p1).put (some d2) p2).put (some d3) p3 := by
  have e : f = over (over (over (fun _ => none) d1 p1) d2 p2) d3 p3 := by
    funext t
    unfold over
    by_cases e3 : t = d3
    · rw [if_pos e3, e3, h3]
    · rw [if_neg e3]
      by_cases e2 : t = d2
      · rw [if_pos e2, e2, h2]
      · rw [if_neg e2]
        by_cases e1 : t = d1
        · rw [if_pos e1, e1, h1]
        · rw [if_neg e1]
          cases hf : f t with
          | none => rfl
          | some v => exact ((hdom t v hf).elim e1 (fun h => h.elim e2 e3)).elim
  rw [e, ← overlay_put, ← overlay_put, ← overlay_put, overlay_none]
def mk (j d s : Nat) (o o' : Obj) : Mk := (j, d, s, o, o')
/-- Two blocks. -/
theorem wp_region_makes2 {P : Program} {id : Nat} {Q : Exit → Act → World → Prop} {a : Act} {w : World} {l : List Oper} (j1 d1 s1 j2 d2 s2 : Nat) (o1 o1' o2 o2' : Obj) (hm : P.follows .mixedOrders = true) (hB : makesB .any l.toArray [mk j1 d1 s1 o1 o1', mk j2 d2 s2 o2 o2'] = true) {m1 m2 : Oper} (h1 : l[j1]? = some m1) (h2 : l[j2]? = some m2)
    (hal1 : ∀ (a : Act) (w : World), (execOp a.eval m1).run P w = .ok (.value (.pointer (some ⟨w.heap.size, 0, none⟩))) (w.alloc o1)) (hal2 : ∀ (a : Act) (w : World), (execOp a.eval m2).run P w = .ok (.value (.pointer (some ⟨w.heap.size, 0, none⟩))) (w.alloc o2))
    (h : spWalk P l.toArray w (isSp [mk j1 d1 s1 o1 o1', mk j2 d2 s2 o2 o2']) (asks P l.toArray [mk j1 d1 s1 o1 o1', mk j2 d2 s2 o2 o2']) (fun a' => ∀ n1 n2 W, Grows w W → w.heap.size ≤ n1 → w.heap.size ≤ n2 → (d1 ≠ d2 → n1 ≠ n2) → W.heap[n1]? = some o1' → W.heap[n2]? = some o2' → Q .normal ((a'.put (some d1) (.pointer (some ⟨n1, 0, none⟩))).put (some d2) (.pointer (some ⟨n2, 0, none⟩))) W) 0 l a) : (Code.region id l.toArray true).wp P Q a w := by
  refine wp_region_makes [mk j1 d1 s1 o1 o1', mk j2 d2 s2 o2 o2'] hm hB ?_ (spWalk_mono ?_ l 0 a h)
  · intro m hm oj hoj
    simp only [List.mem_cons, List.not_mem_nil, or_false] at hm
    rcases hm with rfl | rfl
    · obtain rfl : m1 = oj := Option.some.inj (h1.symm.trans (by simpa [mk, Mk.j] using hoj))
      exact hal1
    · obtain rfl : m2 = oj := Option.some.inj (h2.symm.trans (by simpa [mk, Mk.j] using hoj))
      exact hal2
  · intro a' ha f W hg hall hinj hdom
    obtain ⟨n1, f1, g1, w1⟩ := hall _ (List.mem_cons_self ..)
    obtain ⟨n2, f2, g2, w2⟩ := hall _ (List.mem_cons_of_mem _ (List.mem_cons_self ..))
    have e := overlay_two (a := a') (f := f) (d1 := d1) (d2 := d2) f1 f2 (fun t v ht => by
      obtain ⟨m, hm, hd⟩ := hdom t v ht
      simp only [List.mem_cons, List.not_mem_nil, or_false] at hm
      rcases hm with rfl | rfl
      · exact .inl hd.symm
      · exact .inr hd.symm)
    rw [e]
    refine ha n1 n2 W hg g1 g2 (fun hne hn => hne ?_) w1 w2
    subst hn
    exact hinj _ _ n1 f1 f2
theorem asks2 {P : Program} {ops : Array Oper} {m1 m2 : Mk} {k : Nat} {a : Act} (h1 : m1.s = k → fillsM P ops m1 a) (h2 : m2.s = k → fillsM P ops m2 a) : asks P ops [m1, m2] k a := by
  intro m hm hs
  simp only [List.mem_cons, List.not_mem_nil, or_false] at hm
  rcases hm with rfl | rfl
  · exact h1 hs
  · exact h2 hs
end Go.Proofs.YtobbphkfdhjmdaaDoor

namespace Go.Proofs.YtobbphkfdhjmdaaDoor
open Go.ChangeShapes Go.WideShapes Go.ChangeAt Go.RowKit
section
variable {P : Program} {w : World} {r : Reach} {b : Nat}
theorem cell_int {k : IntKind} {u : TypeId} {v : Value} (hu : P.underlying u = some (.int k)) (h : Cell.okWide P w r b u v) : ∃ n, v = .int k n ∧ k.min ≤ n ∧ n ≤ k.max := by
  simp only [Cell.okWide, hu] at h
  cases v <;> simp_all [Cell.ok, IntKind.has]
theorem arg_int {k : IntKind} {t : TypeId} {v : Value} (ht : P.underlying t = some (.int k)) (h : Value.okWide P w r b t v) : ∃ n, v = .int k n ∧ k.min ≤ n ∧ n ≤ k.max := by
  simp only [Value.okWide, ht] at h
  exact cell_int ht h
theorem arg_bool {t : TypeId} {v : Value} (ht : P.underlying t = some .bool) (h : Value.okWide P w r b t v) : ∃ x, v = .bool x := by
  simp only [Value.okWide, ht, Cell.okWide] at h
  cases v <;> simp_all [Cell.ok]
theorem arg_struct {fs : Array Field} {t : TypeId} {v : Value} (ht : P.underlying t = some (.struct fs)) (h : Value.okWide P w r b t v) : ∃ cs, v = .agg cs ∧ cs.size = P.cellsOf t ∧ Row.okWide P w r b t cs := by
  simpa only [Value.okWide, ht] using h
theorem arg_array {n : Nat} {e : TypeId} {t : TypeId} {v : Value} (ht : P.underlying t = some (.array n e)) (h : Value.okWide P w r b t v) : ∃ cs, v = .agg cs ∧ cs.size = P.cellsOf t ∧ Row.okWide P w r b t cs := by
  simpa only [Value.okWide, ht] using h
/-- The cells of a row, each by its own type. -/
theorem row_cells {t : TypeId} {cs : Array Value} {ts : List TypeId} (hts : P.cellTypes P.depth t = some ts) (hn : P.cellsOf t = ts.length) (hsz : cs.size = P.cellsOf t) (h : Row.okWide P w r b t cs) :
    ∀ (i : Nat) (c : Value), cs[i]? = some c → ∃ u, ts[i]? = some u ∧ Cell.okWide P w r b u c := by
  obtain ⟨ts', h1, _, h2⟩ := h
  obtain rfl : ts = ts' := Option.some.inj (hts.symm.trans h1)
  intro i c hc
  have hi : i < cs.size := by
    rcases Nat.lt_or_ge i cs.size with h' | h'
    · exact h'
    · rw [Array.getElem?_eq_none h'] at hc; cases hc
  obtain ⟨u, hu, hk⟩ := h2 i c hc
  rw [Nat.mod_eq_of_lt (by omega)] at hu
  exact ⟨u, hu, hk⟩
theorem ints_of {k : IntKind} : ∀ {l : List Value}, (∀ c ∈ l, ∃ n, c = .int k n ∧ k.min ≤ n ∧ n ≤ k.max) → ∃ z : List Int, l = z.map (.int k ·) ∧ ∀ x ∈ z, k.min ≤ x ∧ x ≤ k.max
  | [], _ => ⟨[], rfl, by simp⟩
  | c :: l, h => by
    obtain ⟨n, rfl, hn⟩ := h c (by simp)
    obtain ⟨z, rfl, hz⟩ := ints_of (l := l) (fun c hc => h c (by simp [hc]))
    exact ⟨n :: z, rfl, by simpa using ⟨hn, hz⟩⟩
/-- A row all of whose cells are of one integer kind. -/
theorem row_ints {k : IntKind} {t : TypeId} {cs : Array Value} {ts : List TypeId} (hts : P.cellTypes P.depth t = some ts) (hn : P.cellsOf t = ts.length) (hall : ∀ u ∈ ts, P.underlying u = some (.int k)) (hsz : cs.size = P.cellsOf t) (h : Row.okWide P w r b t cs) :
    ∃ z : List Int, cs = (z.map (Value.int k ·)).toArray ∧ z.length = ts.length ∧ ∀ x ∈ z, k.min ≤ x ∧ x ≤ k.max := by
  have hc := row_cells hts hn hsz h
  obtain ⟨l⟩ := cs
  obtain ⟨z, rfl, hz⟩ := ints_of (k := k) (l := l) (fun c hm => by
    obtain ⟨i, hi, rfl⟩ := List.getElem_of_mem hm
    obtain ⟨u, hu, hk⟩ := hc i l[i] (by simp [hi])
    exact cell_int (hall u (List.mem_of_getElem? hu)) hk)
  exact ⟨z, rfl, by simp at hsz; omega, hz⟩
theorem range_i64 {x : Int} (h : IntKind.i64.min ≤ x ∧ x ≤ IntKind.i64.max) : -9223372036854775808 ≤ x ∧ x < 9223372036854775808 := by
  have h1 : IntKind.i64.min = -9223372036854775808 := by decide
  have h2 : IntKind.i64.max = 9223372036854775807 := by decide
  omega
theorem range_u8 {x : Int} (h : IntKind.u8.min ≤ x ∧ x ≤ IntKind.u8.max) : 0 ≤ x ∧ x < 256 := by
  have h1 : IntKind.u8.min = 0 := by decide
  have h2 : IntKind.u8.max = 255 := by decide
  omega
end
section
variable {H : Type} {enc : TypeId × Value → H} {P : Program}
/-- The arguments read as they did. -/
theorem trodAll_below (hl : laidOutB P = true) {W W' : World} (hb : Below W.heap.size W W') {sp : Nat → Bool} :
    ∀ {ts : List TypeId} {vs : List Value} {ds : List (DataW H)} {ps : List MemPlace}, ts.all (fun t => P.readableRec t && decide (t < P.types.size)) = true →
      DataW.TrodAll enc P W 0 (fun _ => true) true ts vs ds ps → (∀ x ∈ ps, x.block < W.heap.size) → (∀ x ∈ ps, sp x.block = true) → DataW.TrodAll enc P W' 0 sp true ts vs ds ps
  | [], vs, ds, ps, _, h, _, _ => by
    obtain ⟨rfl, rfl, rfl⟩ := trodAll_nil h
    exact trodAll_mk0
  | t :: ts, vs, ds, ps, hr, h, hlt, hsp => by
    obtain ⟨v, vs', d, ds', p, q, rfl, rfl, rfl, h0, r0⟩ := trodAll_cons h
    simp only [List.all_cons, Bool.and_eq_true, decide_eq_true_eq] at hr
    refine trodAll_cons_mk ?_ (trodAll_below hl hb (by simpa using hr.2) r0 (fun x hx => hlt x (by simp [hx])) (fun x hx => hsp x (by simp [hx])))
    exact WideElems.Trod_stays hl hr.1.1 hr.1.2 h0 (fun x hx => hb.same (hlt x (by simp [hx]))) (fun x hx => hsp x (by simp [hx]))
/-- 'post' of a law's row. -/
theorem law_post {f : Func} {s : ChangeSpec} {W W' : World} {args : Array Value} {ds gs : List (DataW H)} {before : List MemPlace} {T : TypeId}
    (hW : DataW.Whole enc P f.params.toList s.vars false W args.toList ds gs before) (hl : laidOutB P = true) (hrd : f.params.toList.all (fun t => P.readableRec t && decide (t < P.types.size)) = true)
    (hv : s.vars = []) (hs1 : (s.fn H (ds ++ gs)).results = [.lit (.bool true)]) (hs2 : (s.fn H (ds ++ gs)).args = ds) (hs3 : (s.fn H (ds ++ gs)).vars = []) (hT : f.resultTypes = #[T]) (hu : P.underlying T = some .bool)
    (g : Grows W W') : s.post enc P f false true false false W args (.bool true) W' := by
  have hb := g.below
  have hW0 := hW
  have hlt : ∀ x ∈ before, x.block < W.heap.size := fun p hp => by simpa using hW.lt p hp
  have hold : ∀ p ∈ before, (fun b => decide (b < W.heap.size)) p.block = true := fun p hp => by simpa using hW.lt p hp
  obtain ⟨pa, q, hA, hV, hbe, hz, hn⟩ := hW
  obtain ⟨rfl, rfl⟩ : gs = [] ∧ q = [] := by
    rw [hv] at hV
    exact trodVars_none hV
  simp only [List.append_nil] at hbe
  subst hbe
  have hA' : DataW.TrodAll enc P W 0 (fun _ => true) true f.params.toList args.toList ds before := hA
  have hres : ∀ (b : Nat) (sp : Nat → Bool) (hd : Bool), DataW.TrodAll enc P W' b sp hd f.resultTypes.toList ((Value.bool true).resultList f.resultTypes.size) (s.fn H (ds ++ [])).results [] := by
    intro b sp hd
    rw [hs1, hT]
    exact trodAll_cons_mk (shut_bool hu _) trodAll_mk0
  have hargs : ∀ sp : Nat → Bool, (∀ p ∈ before, sp p.block = true) → DataW.TrodAll enc P W' 0 sp true f.params.toList args.toList (s.fn H (ds ++ [])).args before := by
    intro sp hsp
    rw [hs2]
    exact trodAll_below hl hb hrd hA' hlt hsp
  have hvars : ∀ sp : Nat → Bool, DataW.TrodVars enc P W' sp s.vars (s.fn H (ds ++ [])).vars [] := by
    intro sp
    rw [hs3, hv]
    exact (rfl : ([] : List MemPlace) = [])
  refine ⟨ds, [], before, [], before, [], hW0, hres _ _ _, hargs _ hold, hvars _, World.keptBut_mono (fun p hp => ⟨hp, by simpa using hp⟩) (hb.frame (· ∈ before)), fun _ => ?_⟩
  refine ⟨ok_one hT rfl (okWide_bool_mk hu true), _, _, ([] ++ before) ++ [], ⟨[] ++ before, [], trodAll_append (hargs _ (fun _ _ => rfl)) (hres _ _ _), hvars _, rfl, ?_, ?_⟩, ?_⟩
  · intro b off hp
    have hp' : MemPlace.cell b off ∈ before := by simpa using hp
    rw [hb.frozen (p := ⟨b, off, none⟩) (by simpa [MemPlace.block] using hlt _ hp')]
    exact hz b off (by simpa using hp')
  · intro ha
    cases ha
  · intro p hp _
    simpa using hp
end
end Go.Proofs.YtobbphkfdhjmdaaDoor

namespace Go.Proofs.YtobbphkfdhjmdaaDoor
open Go.RowKit

def attrsA : Array Value := #[.int .i64 1, .int .i64 1, .int .i64 22, .int .i64 2, .int .i64 2, .int .i64 22, .int .i64 4, .int .i64 3, .int .i64 23, .int .i64 8, .int .i64 5, .int .i64 25, .int .i64 16, .int .i64 7, .int .i64 27, .int .i64 32, .int .i64 8, .int .i64 28, .int .i64 64, .int .i64 9, .int .i64 29, .int .i64 128, .int .i64 53, .int .i64 55]
/-- The table of the attributes lies where the program's variable lies. -/
def GL (w : World) : Prop := ∃ t fr, w.heap[0]? = some (.cells attrsA t fr)
theorem GL.grows {w w' : World} (h : GL w) (g : Grows w w') : GL w' := by
  obtain ⟨t, fr, h⟩ := h
  exact ⟨t, fr, (g.below.block 0 (Array.getElem?_eq_some_iff.1 h).1).trans h⟩
def bitA (k : Nat) : Int := (attrsL.getD k (0, 0, 0)).1
def setA (k : Nat) : Int := (attrsL.getD k (0, 0, 0)).2.1
def clrA (k : Nat) : Int := (attrsL.getD k (0, 0, 0)).2.2
def simF0 : Int → Option Pen := updP (updP (updP (updP (updP (updP (updP (fun _ => none) 0 (pen 0 0)) 4 (pen 3 1)) 21 (pen 3 2)) 24 (pen 3 0)) 39 (pen 4 0)) 49 (pen 5 0)) 59 (pen 6 0)
def simF1 : Nat → Int → Option Pen
  | 0 => simF0
  | k + 1 => updP (updP (simF1 k) (setA k) (pen 1 (bitA k))) (clrA k) (pen 2 (bitA k))
def simF2 : Int → Option Pen := updP (updP (simF1 8) 6 (pen 1 8)) 22 (pen 2 3)
def simF3 : Nat → Int → Option Pen
  | 0 => simF2
  | k + 1 => updP (updP (updP (updP (simF3 k) (30 + k) (colored 4 1 k)) (90 + k) (colored 4 1 (8 + k))) (40 + k) (colored 5 1 k)) (100 + k) (colored 5 1 (8 + k))
theorem simF_tab : ∀ k : Fin 108, simF3 8 (k.val : Int) = simpleV (k.val : Int) := by decide +kernel
theorem updP_out {f : Int → Option Pen} {k : Int} {p : Pen} {j : Int} (hf : f j = none) (hk : ¬ j = k) : updP f k p j = none := by
  unfold updP
  rw [if_neg hk]
  exact hf
theorem simF_out {j : Int} (h : j < 0 ∨ 107 < j) : simF3 8 j = none := by
  have h0 : simF0 j = none := by
    unfold simF0
    repeat (refine updP_out ?_ (by omega))
    rfl
  have h1 : ∀ k, k ≤ 8 → simF1 k j = none := by
    intro k hk
    induction k with
    | zero => exact h0
    | succ k ih =>
      have hs : ∀ k, k < 8 → (0 ≤ setA k ∧ setA k ≤ 107) ∧ (0 ≤ clrA k ∧ clrA k ≤ 107) := by decide
      have := hs k (by omega)
      exact updP_out (updP_out (ih (by omega)) (by omega)) (by omega)
  have h2 : simF2 j = none := updP_out (updP_out (h1 8 (by omega)) (by omega)) (by omega)
  have h3 : ∀ k, k ≤ 8 → simF3 k j = none := by
    intro k hk
    induction k with
    | zero => exact h2
    | succ k ih => exact updP_out (updP_out (updP_out (updP_out (ih (by omega)) (by omega)) (by omega)) (by omega)) (by omega)
  exact h3 8 (by omega)
theorem simF_eq : simF3 8 = simpleV := by
  funext j
  by_cases h : j < 0 ∨ 107 < j
  · rw [simF_out h, simple_out h]
  · have h1 := simF_tab ⟨j.toNat, by omega⟩
    have e : ((j.toNat : Nat) : Int) = j := by omega
    simpa only [e] using h1
theorem simF1_5 : simF1 8 5 = some (pen 1 8) := by decide
theorem ix113_0 (w : World) : (Instr.index 113 (.agg attrsA) (.int .i64 0)).run Tryd.prog w = .ok (.agg #[.int .i64 1, .int .i64 1, .int .i64 22]) w := by kernel_rfl
theorem ix113_1 (w : World) : (Instr.index 113 (.agg attrsA) (.int .i64 1)).run Tryd.prog w = .ok (.agg #[.int .i64 2, .int .i64 2, .int .i64 22]) w := by kernel_rfl
theorem ix113_2 (w : World) : (Instr.index 113 (.agg attrsA) (.int .i64 2)).run Tryd.prog w = .ok (.agg #[.int .i64 4, .int .i64 3, .int .i64 23]) w := by kernel_rfl
theorem ix113_3 (w : World) : (Instr.index 113 (.agg attrsA) (.int .i64 3)).run Tryd.prog w = .ok (.agg #[.int .i64 8, .int .i64 5, .int .i64 25]) w := by kernel_rfl
theorem ix113_4 (w : World) : (Instr.index 113 (.agg attrsA) (.int .i64 4)).run Tryd.prog w = .ok (.agg #[.int .i64 16, .int .i64 7, .int .i64 27]) w := by kernel_rfl
theorem ix113_5 (w : World) : (Instr.index 113 (.agg attrsA) (.int .i64 5)).run Tryd.prog w = .ok (.agg #[.int .i64 32, .int .i64 8, .int .i64 28]) w := by kernel_rfl
theorem ix113_6 (w : World) : (Instr.index 113 (.agg attrsA) (.int .i64 6)).run Tryd.prog w = .ok (.agg #[.int .i64 64, .int .i64 9, .int .i64 29]) w := by kernel_rfl
theorem ix113_7 (w : World) : (Instr.index 113 (.agg attrsA) (.int .i64 7)).run Tryd.prog w = .ok (.agg #[.int .i64 128, .int .i64 53, .int .i64 55]) w := by kernel_rfl
theorem ix113 (k : Nat) (hk : k < 8) (w : World) : (Instr.index 113 (.agg attrsA) (.int .i64 k)).run Tryd.prog w = .ok (.agg #[.int .i64 (bitA k), .int .i64 (setA k), .int .i64 (clrA k)]) w := by
  have h : k = 0 ∨ k = 1 ∨ k = 2 ∨ k = 3 ∨ k = 4 ∨ k = 5 ∨ k = 6 ∨ k = 7 := by omega
  rcases h with rfl | rfl | rfl | rfl | rfl | rfl | rfl | rfl
  · exact ix113_0 w
  · exact ix113_1 w
  · exact ix113_2 w
  · exact ix113_3 w
  · exact ix113_4 w
  · exact ix113_5 w
  · exact ix113_6 w
  · exact ix113_7 w
theorem zero26 (w : World) : (zeroValue 26).run Tryd.prog w = .ok (.agg #[.int .i64 0, .int .i64 0, .int .i64 0, .int .i64 0, .int .i64 0, .string ⟨#[]⟩]) w := by kernel_rfl
theorem info113 : (Tryd.prog.info? 113).map (·.size) = some 24 := by kernel_rfl
end Go.Proofs.YtobbphkfdhjmdaaDoor

namespace Go.Proofs.YtobbphkfdhjmdaaDoor
open Go.RowKit

theorem pen30_any (n m : Int) (w : World) : Calls Tryd.prog 30 #[.int .i64 n, .int .i64 m] w (Ret (.agg #[.int .i64 39, .int .i64 n, .int .i64 m, .int .i64 0, .int .i64 0, .string ⟨#[]⟩]) w) := by
  go_enter Tryd.func30, Tryd.ntmps30
  go_wp2
  go_returns
  exact ⟨rfl, (by repeat' (first | (with_reducible exact Grows.refl _) | (with_reducible refine Grows.alloc ?_ _) | (with_reducible refine Grows.drew ?_) | (with_reducible refine Grows.ext ?_ _ _)))⟩
theorem pen11_any (n m : Int) (w : World) : Calls Tryd.prog 11 #[.int .i64 n, .int .i64 m] w (Ret (.agg #[.int .i64 39, .int .i64 n, .int .i64 m, .int .i64 0, .int .i64 0, .string ⟨#[]⟩]) w) := by
  go_enter Tryd.func11, Tryd.ntmps11
  go_wp2
  go_returns
  exact ⟨rfl, (by repeat' (first | (with_reducible exact Grows.refl _) | (with_reducible refine Grows.alloc ?_ _) | (with_reducible refine Grows.drew ?_) | (with_reducible refine Grows.ext ?_ _ _)))⟩
theorem pen36_any (n m : Int) (w : World) : Calls Tryd.prog 36 #[.int .i64 n, .int .i64 m] w (Ret (.agg #[.int .i64 39, .int .i64 n, .int .i64 m, .int .i64 0, .int .i64 0, .string ⟨#[]⟩]) w) := by
  go_enter Tryd.func36, Tryd.ntmps36
  go_wp2
  go_returns
  exact ⟨rfl, (by repeat' (first | (with_reducible exact Grows.refl _) | (with_reducible refine Grows.alloc ?_ _) | (with_reducible refine Grows.drew ?_) | (with_reducible refine Grows.ext ?_ _ _)))⟩
theorem col85_any (n k c : Int) (w : World) : Calls Tryd.prog 85 #[.int .i64 n, .int .i64 k, .int .i64 c] w (Ret (.agg #[.int .i64 39, .int .i64 n, .int .i64 0, .int .i64 k, .int .i64 c, .string ⟨#[]⟩]) w) := by
  go_enter Tryd.func85, Tryd.ntmps85
  go_wp2
  go_returns
  exact ⟨rfl, (by repeat' (first | (with_reducible exact Grows.refl _) | (with_reducible refine Grows.alloc ?_ _) | (with_reducible refine Grows.drew ?_) | (with_reducible refine Grows.ext ?_ _ _)))⟩
theorem col12_any (n k c : Int) (w : World) : Calls Tryd.prog 12 #[.int .i64 n, .int .i64 k, .int .i64 c] w (Ret (.agg #[.int .i64 39, .int .i64 n, .int .i64 0, .int .i64 k, .int .i64 c, .string ⟨#[]⟩]) w) := by
  go_enter Tryd.func12, Tryd.ntmps12
  go_wp2
  go_returns
  exact ⟨rfl, (by repeat' (first | (with_reducible exact Grows.refl _) | (with_reducible refine Grows.alloc ?_ _) | (with_reducible refine Grows.drew ?_) | (with_reducible refine Grows.ext ?_ _ _)))⟩
theorem col70_any (n k c : Int) (w : World) : Calls Tryd.prog 70 #[.int .i64 n, .int .i64 k, .int .i64 c] w (Ret (.agg #[.int .i64 39, .int .i64 n, .int .i64 0, .int .i64 k, .int .i64 c, .string ⟨#[]⟩]) w) := by
  go_enter Tryd.func70, Tryd.ntmps70
  go_wp2
  go_returns
  exact ⟨rfl, (by repeat' (first | (with_reducible exact Grows.refl _) | (with_reducible refine Grows.alloc ?_ _) | (with_reducible refine Grows.drew ?_) | (with_reducible refine Grows.ext ?_ _ _)))⟩
def ofN (v : Int) : Int := match ofV v with | some n => n | none => 0
def ofB (v : Int) : Bool := (ofV v).isSome
theorem of_no (v : Int) (h : ofB v = false) (w : World) : Calls Tryd.prog 88 #[.int .i64 v] w (fun e w' => e = .returned (.tuple #[.int .i64 0, .bool false]) ∧ w = w') := by
  have h1 : ¬ v = 38 := by rintro rfl; cases h
  have h2 : ¬ v = 48 := by rintro rfl; cases h
  have h3 : ¬ v = 58 := by rintro rfl; cases h
  have e1 : (v == 38) = false := by simpa using h1
  have e2 : (v == 48) = false := by simpa using h2
  have e3 : (v == 58) = false := by simpa using h3
  clear h
  go_enter Tryd.func88, Tryd.ntmps88
  go_wp2
  go_ret2
  exact ⟨rfl, rfl⟩
theorem of_38 (w : World) : Calls Tryd.prog 88 #[.int .i64 38] w (fun e w' => e = .returned (.tuple #[.int .i64 4, .bool true]) ∧ w = w') := by
  go_enter Tryd.func88, Tryd.ntmps88
  go_wp2
  go_ret2
  exact ⟨rfl, rfl⟩
theorem of_48 (w : World) : Calls Tryd.prog 88 #[.int .i64 48] w (fun e w' => e = .returned (.tuple #[.int .i64 5, .bool true]) ∧ w = w') := by
  go_enter Tryd.func88, Tryd.ntmps88
  go_wp2
  go_ret2
  exact ⟨rfl, rfl⟩
theorem of_58 (w : World) : Calls Tryd.prog 88 #[.int .i64 58] w (fun e w' => e = .returned (.tuple #[.int .i64 6, .bool true]) ∧ w = w') := by
  go_enter Tryd.func88, Tryd.ntmps88
  go_wp2
  go_ret2
  exact ⟨rfl, rfl⟩
theorem of_any (v : Int) (w : World) : Calls Tryd.prog 88 #[.int .i64 v] w (fun e w' => e = .returned (.tuple #[.int .i64 (ofN v), .bool (ofB v)]) ∧ w = w') := by
  by_cases h1 : v = 38
  · subst h1; exact of_38 w
  by_cases h2 : v = 48
  · subst h2; exact of_48 w
  by_cases h3 : v = 58
  · subst h3; exact of_58 w
  have h : ofV v = none := ofV_none h1 h2 h3
  have hb : ofB v = false := by simp [ofB, h]
  have hn : ofN v = 0 := by simp [ofN, h]
  rw [hb, hn]
  exact of_no v hb w
end Go.Proofs.YtobbphkfdhjmdaaDoor

namespace Go.Proofs.YtobbphkfdhjmdaaDoor
open Go.RowKit

theorem within_snoc {l : List Int} {k : Nat} (hk : k < l.length) : withinL (l.take (k + 1)) = (withinL (l.take k) && (decide (0 ≤ l[k]?.getD 0) && decide (l[k]?.getD 0 ≤ 255))) := by
  rw [List.take_succ_eq_append_getElem hk, withinL, withinL, List.all_append]
  simp [hk]
theorem within_out {l : List Int} {k : Nat} (hk : k < l.length) (h : ¬ (0 ≤ l[k]?.getD 0 ∧ l[k]?.getD 0 ≤ 255)) : withinL l = false := by
  rw [Bool.eq_false_iff]
  intro hw
  have := withinL_iff.1 hw l[k] (List.getElem_mem hk)
  simp [hk] at h
  omega
set_option maxHeartbeats 1000000 in
theorem within_any (v : Value) (l : List Int) (hl : l.length ≤ 100000) (w : World) (h : IntsAt w v l) : Calls Tryd.prog 94 #[v] w (fun e w' => e = .returned (.bool (withinL l)) ∧ w = w') := by
  obtain ⟨a, cap, rfl, -, hin⟩ := h
  have Hin := Lib.hid hin
  clear hin
  go_enter Tryd.func94, Tryd.ntmps94
  go_wp2
  go_loop [7] (fun i => ∃ k : Nat, k ≤ l.length ∧ i = .int .i64 k ∧ withinL (l.take k) = true) (fun i => l.length - (intOf i).toNat)
  case atStart => exact ⟨0, Nat.zero_le _, rfl, rfl⟩
  case round =>
    obtain ⟨k, hk, rfl, hw⟩ := hrel
    have Hw := Lib.hid hw
    clear hw
    by_cases hlt : k < l.length
    · obtain ⟨b, off, rfl, _, hc⟩ := Hin.out (by rintro rfl; simp at hlt)
      have c0 := hc k hlt
      have hs := Lib.hid (within_snoc hlt)
      have ho := Lib.hid (within_out hlt)
      generalize l[k]?.getD 0 = x at *
      clear hc
      go_wp2
      all_goals first
        | (go_ret; exact ⟨ret_bool (ho.out (by omega)).symm, rfl⟩)
        | (go_round; (case rel => exact ⟨k + 1, by omega, by go_num, by rw [hs.out, Hw.out]; simp; omega⟩); (case measure => simp [intOf]; omega))
    · go_wp2
      go_ret
      have e : l.take k = l := List.take_of_length_le (by omega)
      have hw := Hw.out
      rw [e] at hw
      exact ⟨ret_bool hw.symm, rfl⟩
set_option maxHeartbeats 1000000 in
theorem rwithin_any (v : Value) (l : List Int) (hl : l.length ≤ 100000) (w : World) (h : IntsAt w v l) : Calls Tryd.prog 69 #[v] w (fun e w' => e = .returned (.bool (withinL l)) ∧ w = w') := by
  obtain ⟨a, cap, rfl, -, hin⟩ := h
  have Hin := Lib.hid hin
  clear hin
  go_enter Tryd.func69, Tryd.ntmps69
  go_wp2
  go_loop [3] (fun i => ∃ k : Nat, k ≤ l.length ∧ i = .int .i64 k ∧ withinL (l.take k) = true) (fun i => l.length - (intOf i).toNat)
  case atStart => exact ⟨0, Nat.zero_le _, rfl, rfl⟩
  case round =>
    obtain ⟨k, hk, rfl, hw⟩ := hrel
    have Hw := Lib.hid hw
    clear hw
    by_cases hlt : k < l.length
    · obtain ⟨b, off, rfl, _, hc⟩ := Hin.out (by rintro rfl; simp at hlt)
      have c0 := hc k hlt
      have hs := Lib.hid (within_snoc hlt)
      have ho := Lib.hid (within_out hlt)
      generalize l[k]?.getD 0 = x at *
      clear hc
      go_wp2
      all_goals first
        | (go_ret; exact ⟨ret_bool (ho.out (by omega)).symm, rfl⟩)
        | (go_round; (case rel => exact ⟨k + 1, by omega, by go_num, by rw [hs.out, Hw.out]; simp; omega⟩); (case measure => simp [intOf]; omega))
    · go_wp2
      go_ret
      have e : l.take k = l := List.take_of_length_le (by omega)
      have hw := Hw.out
      rw [e] at hw
      exact ⟨ret_bool hw.symm, rfl⟩
end Go.Proofs.YtobbphkfdhjmdaaDoor

namespace Go.Proofs.YtobbphkfdhjmdaaDoor
open Go.RowKit

theorem or_nat (x y : Nat) (hx : x < 16777216) (hy : y < 16777216) : bits .or .i64 (x : Int) (y : Int) = ((x ||| y : Nat) : Int) := by
  have h : x ||| y < 16777216 := Nat.or_lt_two_pow (n := 24) hx hy
  have q : ∀ z, z < 16777216 → z % 2 ^ 64 = z := fun z hz => Nat.mod_eq_of_lt (Nat.lt_of_lt_of_le hz (by decide))
  have hn : (BitVec.ofNat 64 x ||| BitVec.ofNat 64 y).toNat = x ||| y := by
    rw [BitVec.toNat_or, BitVec.toNat_ofNat, BitVec.toNat_ofNat, q x hx, q y hy]
  rw [or_eq, BitVec.ofInt_natCast, BitVec.ofInt_natCast, BitVec.toInt_eq_toNat_of_lt, hn]
  rw [hn]
  omega
theorem or_rgb {a b c : Int} (a0 : 0 ≤ a) (a1 : a ≤ 255) (b0 : 0 ≤ b) (b1 : b ≤ 255) (c0 : 0 ≤ c) (c1 : c ≤ 255) : bits .or .i64 (bits .or .i64 (a * 65536) (b * 256)) c = a * 65536 + b * 256 + c := by
  obtain ⟨x, rfl⟩ := Int.eq_ofNat_of_zero_le a0
  obtain ⟨y, rfl⟩ := Int.eq_ofNat_of_zero_le b0
  obtain ⟨z, rfl⟩ := Int.eq_ofNat_of_zero_le c0
  have xl : x ≤ 255 := by omega
  have yl : y ≤ 255 := by omega
  have zl : z ≤ 255 := by omega
  have e1 : ((x : Int) * 65536) = ((x * 65536 : Nat) : Int) := by omega
  have e2 : ((y : Int) * 256) = ((y * 256 : Nat) : Int) := by omega
  have e3 : x * 65536 + y * 256 = (x * 256 + y) * 256 := by omega
  have e4 : (((x * 256 + y) * 256 + z : Nat) : Int) = ((x * 65536 : Nat) : Int) + ((y * 256 : Nat) : Int) + (z : Int) := by omega
  have q1 := Nat.lt_of_le_of_lt (Nat.mul_le_mul_right 65536 xl) (show 255 * 65536 < 16777216 by decide)
  have q2 := Nat.lt_of_le_of_lt (Nat.mul_le_mul_right 256 yl) (show 255 * 256 < 16777216 by decide)
  have q3 := Nat.lt_of_le_of_lt (Nat.mul_le_mul_right 256 (Nat.add_le_add (Nat.mul_le_mul_right 256 xl) yl)) (show (255 * 256 + 255) * 256 < 16777216 by decide)
  have q4 := Nat.lt_of_le_of_lt zl (show 255 < 16777216 by decide)
  have h1 := Nat.shiftLeft_add_eq_or_of_lt (i := 16) (b := y * 256) (Nat.lt_of_le_of_lt (Nat.mul_le_mul_right 256 yl) (by decide)) x
  have h2 := Nat.shiftLeft_add_eq_or_of_lt (i := 8) (b := z) (Nat.lt_of_le_of_lt zl (by decide)) (x * 256 + y)
  rw [Nat.shiftLeft_eq, show 2 ^ 16 = 65536 from rfl] at h1
  rw [Nat.shiftLeft_eq, show 2 ^ 8 = 256 from rfl] at h2
  rw [e1, e2, or_nat _ _ q1 q2, ← h1, e3, or_nat _ _ q3 q4, ← h2, e4]
theorem ret_act {p q : Value} {b : Bool} (h : p = q) : Ending.returned (.tuple #[p, .bool b]) = .returned (.tuple #[q, .bool b]) := by rw [h]
def kd (b : Bool) : Int := if b then 39 else 0
theorem shade_no (n how : Int) (v : Value) (l : List Int) (hl : l.length ≤ 100000) (w : World) (h : IntsAt w v l) (hw : withinL l = false) : Calls Tryd.prog 89 #[.int .i64 n, .int .i64 how, v] w (Ret (.tuple #[.agg #[.int .i64 0, .int .i64 0, .int .i64 0, .int .i64 0, .int .i64 0, .string ⟨#[]⟩], .bool false]) w) := by
  have HW := Lib.hid (show ∀ W, IntsAt W v l → Calls Tryd.prog 94 #[v] W (fun e w' => e = .returned (.bool false) ∧ W = w') from fun W hW => hw ▸ within_any v l hl W hW)
  have H := Lib.hid h
  clear h hw
  go_enter Tryd.func89, Tryd.ntmps89
  go_wp2_with (first | (go_at_call 94; (with_reducible refine (HW.out _ (H.out.grows (by repeat' (first | (with_reducible exact Grows.refl _) | (with_reducible refine Grows.alloc ?_ _) | (with_reducible refine Grows.drew ?_) | (with_reducible refine Grows.ext ?_ _ _))))).mono ?_); rintro e w' ⟨rfl, rfl⟩))
  go_returns
  exact ⟨rfl, (by repeat' (first | (with_reducible exact Grows.refl _) | (with_reducible refine Grows.alloc ?_ _) | (with_reducible refine Grows.drew ?_) | (with_reducible refine Grows.ext ?_ _ _)))⟩
theorem shade_one (n a : Int) (v : Value) (w : World) (h : IntsAt w v [a]) (hw : withinL [a] = true) : Calls Tryd.prog 89 #[.int .i64 n, .int .i64 5, v] w (Ret (.tuple #[.agg #[.int .i64 39, .int .i64 n, .int .i64 0, .int .i64 1, .int .i64 a, .string ⟨#[]⟩], .bool true]) w) := by
  have HW := Lib.hid (show ∀ W, IntsAt W v [a] → Calls Tryd.prog 94 #[v] W (fun e w' => e = .returned (.bool true) ∧ W = w') from fun W hW => hw ▸ within_any v [a] (by simp) W hW)
  have H := Lib.hid h
  obtain ⟨p, cap, rfl, -, hin⟩ := h
  obtain ⟨b, off, rfl, hb, hc⟩ := hin (by simp)
  have c0 := hc 0 (by simp)
  simp only [List.length_singleton, Nat.add_zero, List.getElem?_cons_zero, Option.getD_some] at *
  clear hin hc hw
  go_enter Tryd.func89, Tryd.ntmps89
  go_wp2_with (first | (go_at_call 94; (with_reducible refine (HW.out _ (H.out.grows (by repeat' (first | (with_reducible exact Grows.refl _) | (with_reducible refine Grows.alloc ?_ _) | (with_reducible refine Grows.drew ?_) | (with_reducible refine Grows.ext ?_ _ _))))).mono ?_); rintro e w' ⟨rfl, rfl⟩) | (go_at_call 85; (with_reducible refine (col85_any _ _ _ _).mono ?_); rintro e w' ⟨rfl, h13, d13, rfl⟩))
  go_returns
  exact ⟨rfl, (by repeat' (first | (with_reducible exact Grows.refl _) | (with_reducible refine Grows.alloc ?_ _) | (with_reducible refine Grows.drew ?_) | (with_reducible refine Grows.ext ?_ _ _)))⟩
theorem shade_three (n a b c : Int) (v : Value) (w : World) (h : IntsAt w v [a, b, c]) (hw : withinL [a, b, c] = true) : Calls Tryd.prog 89 #[.int .i64 n, .int .i64 2, v] w (Ret (.tuple #[.agg #[.int .i64 39, .int .i64 n, .int .i64 0, .int .i64 2, .int .i64 (a * 65536 + b * 256 + c), .string ⟨#[]⟩], .bool true]) w) := by
  have HW := Lib.hid (show ∀ W, IntsAt W v [a, b, c] → Calls Tryd.prog 94 #[v] W (fun e w' => e = .returned (.bool true) ∧ W = w') from fun W hW => hw ▸ within_any v [a, b, c] (by simp) W hW)
  have H := Lib.hid h
  obtain ⟨p, cap, rfl, -, hin⟩ := h
  obtain ⟨bk, off, rfl, hb, hc⟩ := hin (by simp)
  have c0 := hc 0 (by simp)
  have c1 := hc 1 (by simp)
  have c2 := hc 2 (by simp)
  simp only [List.length_cons, List.length_nil, Nat.zero_add, Nat.reduceAdd, Nat.add_zero, List.getElem?_cons_zero, List.getElem?_cons_succ, Option.getD_some] at *
  obtain ⟨⟨a0, a1⟩, ⟨b0, b1⟩, c3, c4⟩ : (0 ≤ a ∧ a ≤ 255) ∧ (0 ≤ b ∧ b ≤ 255) ∧ (0 ≤ c ∧ c ≤ 255) := by simpa [withinL] using hw
  clear hin hc hw
  go_enter Tryd.func89, Tryd.ntmps89
  go_wp2_with (first | (go_at_call 94; (with_reducible refine (HW.out _ (H.out.grows (by repeat' (first | (with_reducible exact Grows.refl _) | (with_reducible refine Grows.alloc ?_ _) | (with_reducible refine Grows.drew ?_) | (with_reducible refine Grows.ext ?_ _ _))))).mono ?_); rintro e w' ⟨rfl, rfl⟩))
  refine wp_region_grow_tail 15 (by kernel_rfl) (by kernel_rfl) ?_
  simp only [List.take_succ_cons, List.take_zero, List.drop_succ_cons, List.drop_zero]
  repeat (first | go_big_quiet_step ((first | (rename_i xg; go_at_call 85; (with_reducible refine (col85_any _ _ _ _).mono ?_); rintro _ _ ⟨rfl, h0, d0, rfl⟩; exact ⟨rfl, Gr.mk (xg.h ++ h0) d0, by simp only [ext_ext, Gr.h_mk, Gr.d_mk]⟩))) | quiet_step ((first | (rename_i xg; go_at_call 85; (with_reducible refine (col85_any _ _ _ _).mono ?_); rintro _ _ ⟨rfl, h0, d0, rfl⟩; exact ⟨rfl, Gr.mk (xg.h ++ h0) d0, by simp only [ext_ext, Gr.h_mk, Gr.d_mk, Array.append_assoc]⟩))))
  refine wpQuiet_nil ?_
  rintro _ ⟨g15, rfl⟩
  go_wp2_with (fail)
  go_returns
  exact ⟨by rw [or_rgb a0 a1 b0 b1 c3 c4], (by repeat' (first | (with_reducible exact Grows.refl _) | (with_reducible refine Grows.alloc ?_ _) | (with_reducible refine Grows.drew ?_) | (with_reducible refine Grows.ext ?_ _ _)))⟩
theorem shade_else (n how : Int) (v : Value) (l : List Int) (hl : l.length ≤ 100000) (w : World) (h : IntsAt w v l) (hw : withinL l = true) (h5 : ¬ (how = 5 ∧ l.length = 1)) (h2 : ¬ (how = 2 ∧ l.length = 3)) : Calls Tryd.prog 89 #[.int .i64 n, .int .i64 how, v] w (Ret (.tuple #[.agg #[.int .i64 0, .int .i64 0, .int .i64 0, .int .i64 0, .int .i64 0, .string ⟨#[]⟩], .bool false]) w) := by
  have HW := Lib.hid (show ∀ W, IntsAt W v l → Calls Tryd.prog 94 #[v] W (fun e w' => e = .returned (.bool true) ∧ W = w') from fun W hW => hw ▸ within_any v l hl W hW)
  have H := Lib.hid h
  obtain ⟨p, cap, rfl, -, hin⟩ := h
  clear hin hw
  generalize l.length = k at *
  by_cases g5 : how = 5
  · subst g5
    have e1 : ((k : Int) == 1) = false := by simp; omega
    have e2 : ((5 : Int) == 2) = false := by decide
    clear h5 h2
    go_enter Tryd.func89, Tryd.ntmps89
    go_wp2_with (first | (go_at_call 94; (with_reducible refine (HW.out _ (H.out.grows (by repeat' (first | (with_reducible exact Grows.refl _) | (with_reducible refine Grows.alloc ?_ _) | (with_reducible refine Grows.drew ?_) | (with_reducible refine Grows.ext ?_ _ _))))).mono ?_); rintro e w' ⟨rfl, rfl⟩))
    go_returns
    exact ⟨rfl, (by repeat' (first | (with_reducible exact Grows.refl _) | (with_reducible refine Grows.alloc ?_ _) | (with_reducible refine Grows.drew ?_) | (with_reducible refine Grows.ext ?_ _ _)))⟩
  · by_cases g2 : how = 2
    · subst g2
      have e1 : ((k : Int) == 3) = false := by simp; omega
      have e2 : ((2 : Int) == 5) = false := by decide
      clear h5 h2
      go_enter Tryd.func89, Tryd.ntmps89
      go_wp2_with (first | (go_at_call 94; (with_reducible refine (HW.out _ (H.out.grows (by repeat' (first | (with_reducible exact Grows.refl _) | (with_reducible refine Grows.alloc ?_ _) | (with_reducible refine Grows.drew ?_) | (with_reducible refine Grows.ext ?_ _ _))))).mono ?_); rintro e w' ⟨rfl, rfl⟩))
      go_returns
      exact ⟨rfl, (by repeat' (first | (with_reducible exact Grows.refl _) | (with_reducible refine Grows.alloc ?_ _) | (with_reducible refine Grows.drew ?_) | (with_reducible refine Grows.ext ?_ _ _)))⟩
    · have e1 : (how == 5) = false := by simpa using g5
      have e2 : (how == 2) = false := by simpa using g2
      clear h5 h2
      go_enter Tryd.func89, Tryd.ntmps89
      go_wp2_with (first | (go_at_call 94; (with_reducible refine (HW.out _ (H.out.grows (by repeat' (first | (with_reducible exact Grows.refl _) | (with_reducible refine Grows.alloc ?_ _) | (with_reducible refine Grows.drew ?_) | (with_reducible refine Grows.ext ?_ _ _))))).mono ?_); rintro e w' ⟨rfl, rfl⟩))
      go_returns
      exact ⟨rfl, (by repeat' (first | (with_reducible exact Grows.refl _) | (with_reducible refine Grows.alloc ?_ _) | (with_reducible refine Grows.drew ?_) | (with_reducible refine Grows.ext ?_ _ _)))⟩
theorem shade_any (n how : Int) (v : Value) (l : List Int) (hl : l.length ≤ 100000) (w : World) (h : IntsAt w v l) : Calls Tryd.prog 89 #[.int .i64 n, .int .i64 how, v] w (Ret (.tuple #[.agg #[.int .i64 (kd (shade n how l).2), .int .i64 (shade n how l).1.n, .int .i64 (shade n how l).1.m, .int .i64 (shade n how l).1.ck, .int .i64 (shade n how l).1.cn, .string ⟨#[]⟩], .bool (shade n how l).2]) w) := by
  by_cases hw : withinL l = true
  · by_cases h5 : how = 5 ∧ l.length = 1
    · obtain ⟨rfl, h1⟩ := h5
      obtain ⟨a, rfl⟩ := List.length_eq_one_iff.1 h1
      have e : shade n 5 [a] = (colored n 1 a, true) := by simp [shade, hw]
      rw [e]
      exact shade_one n a v w h hw
    · by_cases h2 : how = 2 ∧ l.length = 3
      · obtain ⟨rfl, h3⟩ := h2
        obtain ⟨a, b, c, rfl⟩ : ∃ a b c, l = [a, b, c] := by
          match l, h3 with
          | [a, b, c], _ => exact ⟨a, b, c, rfl⟩
        have e : shade n 2 [a, b, c] = (colored n 2 (a * 65536 + b * 256 + c), true) := by simp [shade, hw]
        rw [e]
        exact shade_three n a b c v w h hw
      · have e : shade n how l = (noPen, false) := by
          unfold shade
          rw [if_pos hw]
          split
          · rw [if_neg (fun q => h5 ⟨q, rfl⟩)]
          · rw [if_neg (fun q => h2 ⟨q, rfl⟩)]
          · rfl
        rw [e]
        exact shade_else n how v l hl w h hw h5 h2
  · have hw' : withinL l = false := by simpa using hw
    have e : shade n how l = (noPen, false) := by
      unfold shade
      rw [if_neg hw]
    rw [e]
    exact shade_no n how v l hl w h hw'
end Go.Proofs.YtobbphkfdhjmdaaDoor

namespace Go.Proofs.YtobbphkfdhjmdaaDoor
open Go.RowKit

theorem IntsAt.drop {w : World} {b off cap : Nat} {l : List Int} (hb : b < w.heap.size) (_hcap : l.length ≤ cap) (hc : ∀ i, i < l.length → w.cell? ⟨b, off + i, none⟩ = some (.int .i64 (l[i]?.getD 0))) (k n m o : Nat) (hk : k ≤ l.length) (hn : n = l.length - k) (hm : l.length - k ≤ m) (ho : o = off + k) : IntsAt w (.slice (some ⟨b, o, none⟩) n m) (l.drop k) := by
  subst hn ho
  refine ⟨_, _, by rw [List.length_drop], by rw [List.length_drop]; omega, fun _ => ⟨b, off + k, rfl, hb, fun i hi => ?_⟩⟩
  rw [List.length_drop] at hi
  rw [Nat.add_assoc, hc (k + i) (by omega), List.getElem?_drop]
def kdP (s : List Int) : Int := if max 0 (s.getD 0 0) = 4 ∧ s.length = 2 then 39 else kd (partsP s).2
set_option maxHeartbeats 1000000 in
theorem parts_four (x0 x1 : Int) (v : Value) (w : World) (h : IntsAt w v [x0, x1]) (h4 : max 0 x0 = 4) : Calls Tryd.prog 87 #[v] w (Ret (.tuple #[.agg #[.int .i64 39, .int .i64 3, .int .i64 x1, .int .i64 0, .int .i64 0, .string ⟨#[]⟩], .bool (decide (0 ≤ x1) && decide (x1 ≤ 5))]) w) := by
  obtain ⟨p, cap, rfl, hcap, hin⟩ := h
  obtain ⟨b, off, rfl, hb, hc⟩ := hin (by simp)
  have c0 := hc 0 (by simp)
  have c1 := hc 1 (by simp)
  simp only [List.length_cons, List.length_nil, Nat.zero_add, Nat.reduceAdd, Nat.add_zero, List.getElem?_cons_zero, List.getElem?_cons_succ, Option.getD_some] at *
  have e0 : x0 = 4 := by omega
  subst e0
  clear hin hc hcap h4
  have hn1 : ¬ b = w.heap.size := by omega
  have hn2 : ¬ w.heap.size = b := by omega
  by_cases h0 : 0 ≤ x1
  · have d0 : decide (0 ≤ x1) = true := by simpa using h0
    rw [d0]
    go_enter Tryd.func87, Tryd.ntmps87
    go_wp2_with (fail)
    refine wp_region_held_drew (S := fun w' => w'.cell? ⟨b, off + 1, none⟩ = some (.int .i64 x1)) (by kernel_rfl) ?_ (fun hHeld => ?_)
    · (simp [go_sem, hb, c1])
    refine wpAnyH_take (i := 0) (v := ?v1_0) rfl (by kernel_rfl) (by kernel_rfl) (by kernel_rfl) (fun _ _ _ h => h) (Or.inl ⟨by kernel_rfl, ?y1_0⟩) (by assumption) ?r1_0
    case y1_0 => ((intro w hSw; (try dsimp only at hSw); go_simp); (try with_reducible rfl))
    try simp only [Act.put, List.getElem_toArray, List.getElem_cons_zero, List.setIfInBounds_toArray, List.set_cons_zero, List.set_cons_succ]
    refine wpAnyH_take (i := 1) (v := ?v2_1) rfl (by kernel_rfl) (by kernel_rfl) (by kernel_rfl) (fun _ _ _ h => h) (Or.inl ⟨by kernel_rfl, ?y2_1⟩) (by assumption) ?r2_1
    case y2_1 => ((intro w hSw; (try dsimp only at hSw); go_simp); (try with_reducible rfl))
    try simp only [Act.put, List.getElem_toArray, List.getElem_cons_succ, List.getElem_cons_zero, List.setIfInBounds_toArray, List.set_cons_zero, List.set_cons_succ]
    refine wpAnyH_take (i := 2) (v := ?v3_2) rfl (by kernel_rfl) (by kernel_rfl) (by kernel_rfl) (fun _ _ _ h => h) (Or.inl ⟨by kernel_rfl, ?y3_2⟩) (by assumption) ?r3_2
    case y3_2 => ((intro w hSw; (try dsimp only at hSw); go_simp); (try with_reducible rfl))
    try simp only [Act.put, List.getElem_toArray, List.getElem_cons_succ, List.getElem_cons_zero, List.setIfInBounds_toArray, List.set_cons_zero, List.set_cons_succ]
    refine wpAnyH_take (i := 4) (v := ?v4_4) rfl (by kernel_rfl) (by kernel_rfl) (by kernel_rfl) (fun _ _ _ h => h) (Or.inl ⟨by kernel_rfl, ?y4_4⟩) (by assumption) ?r4_4
    case y4_4 => ((intro w hSw; (try dsimp only at hSw); go_simp); (try with_reducible rfl))
    try simp only [Act.put, List.getElem_toArray, List.getElem_cons_succ, List.getElem_cons_zero, List.setIfInBounds_toArray, List.set_cons_zero, List.set_cons_succ]
    refine wpAnyH_take (i := 5) (v := ?v5_5) rfl (by kernel_rfl) (by kernel_rfl) (by kernel_rfl) (fun _ _ _ h => h) (Or.inl ⟨by kernel_rfl, ?y5_5⟩) (by assumption) ?r5_5
    case y5_5 => ((intro w hSw; (try dsimp only at hSw); go_simp); (try with_reducible rfl))
    try simp only [Act.put, List.getElem_toArray, List.getElem_cons_succ, List.getElem_cons_zero, List.setIfInBounds_toArray, List.set_cons_zero, List.set_cons_succ]
    refine wpAnyH_take (i := 6) (v := ?v6_6) rfl (by kernel_rfl) (by kernel_rfl) (by kernel_rfl) (fun _ _ _ h => h) (Or.inl ⟨by kernel_rfl, ?y6_6⟩) (by assumption) ?r6_6
    case y6_6 => ((intro w hSw; (try dsimp only at hSw); go_simp); (try with_reducible rfl))
    try simp only [Act.put, List.getElem_toArray, List.getElem_cons_succ, List.getElem_cons_zero, List.setIfInBounds_toArray, List.set_cons_zero, List.set_cons_succ]
    refine wpAnyH_take (i := 7) (v := ?v7_7) rfl (by kernel_rfl) (by kernel_rfl) (by kernel_rfl) (fun _ _ _ h => h) (Or.inl ⟨by kernel_rfl, ?y7_7⟩) (by assumption) ?r7_7
    case y7_7 => ((intro w hSw; (try dsimp only at hSw); go_simp); (try with_reducible rfl))
    try simp only [Act.put, List.getElem_toArray, List.getElem_cons_succ, List.getElem_cons_zero, List.setIfInBounds_toArray, List.set_cons_zero, List.set_cons_succ]
    refine wpAnyH_ready (rs := [3]) (by kernel_rfl) (by simp) ?_
    refine AllReadyH.cons rfl (fun K hK => ?_) AllReadyH.nil
    simp only [List.getElem_toArray, List.getElem_cons_succ, List.getElem_cons_zero]
    go_simp
    (go_at_call 30; (with_reducible refine (pen30_any _ _ _).mono ?_); rintro e w' ⟨rfl, h18, d18, rfl⟩)
    refine hK.out _ _ ?_ ?_
    · ((try dsimp only); simp [go_sem, hb, c1])
    clear hK K hHeld
    intro hHeld
    try simp only [Act.put, List.getElem_toArray, List.getElem_cons_succ, List.getElem_cons_zero, List.setIfInBounds_toArray, List.set_cons_zero, List.set_cons_succ]
    refine wpAnyH_take (i := 8) (v := ?v9_8) rfl (by kernel_rfl) (by kernel_rfl) (by kernel_rfl) (fun _ _ _ h => h) (Or.inl ⟨by kernel_rfl, ?y9_8⟩) (by assumption) ?r9_8
    case y9_8 => ((intro w hSw; (try dsimp only at hSw); go_simp); (try with_reducible rfl))
    try simp only [Act.put, List.getElem_toArray, List.getElem_cons_succ, List.getElem_cons_zero, List.setIfInBounds_toArray, List.set_cons_zero, List.set_cons_succ]
    refine wpAnyH_take (i := 9) (v := ?v10_9) rfl (by kernel_rfl) (by kernel_rfl) (by kernel_rfl) (fun _ _ _ h => h) (Or.inl ⟨by kernel_rfl, ?y10_9⟩) (by assumption) ?r10_9
    case y10_9 => ((intro w hSw; (try dsimp only at hSw); go_simp); (try with_reducible rfl))
    try simp only [Act.put, List.getElem_toArray, List.getElem_cons_succ, List.getElem_cons_zero, List.setIfInBounds_toArray, List.set_cons_zero, List.set_cons_succ]
    refine wpAnyH_take (i := 10) (v := ?v11_10) rfl (by kernel_rfl) (by kernel_rfl) (by kernel_rfl) (fun _ _ _ h => h) (Or.inl ⟨by kernel_rfl, ?y11_10⟩) (by assumption) ?r11_10
    case y11_10 => ((intro w hSw; (try dsimp only at hSw); go_simp); (try with_reducible rfl))
    try simp only [Act.put, List.getElem_toArray, List.getElem_cons_succ, List.getElem_cons_zero, List.setIfInBounds_toArray, List.set_cons_zero, List.set_cons_succ]
    refine wpAnyH_take (i := 11) (v := ?v12_11) rfl (by kernel_rfl) (by kernel_rfl) (by kernel_rfl) (fun _ _ _ h => h) (Or.inl ⟨by kernel_rfl, ?y12_11⟩) (by assumption) ?r12_11
    case y12_11 => ((intro w hSw; (try dsimp only at hSw); go_simp); (try with_reducible rfl))
    try simp only [Act.put, List.getElem_toArray, List.getElem_cons_succ, List.getElem_cons_zero, List.setIfInBounds_toArray, List.set_cons_zero, List.set_cons_succ]
    refine wpAnyH_take (i := 12) (v := ?v13_12) rfl (by kernel_rfl) (by kernel_rfl) (by kernel_rfl) (fun _ _ _ h => h) (Or.inl ⟨by kernel_rfl, ?y13_12⟩) (by assumption) ?r13_12
    case y13_12 => ((intro w hSw; (try dsimp only at hSw); go_simp); (try with_reducible rfl))
    try simp only [Act.put, List.getElem_toArray, List.getElem_cons_succ, List.getElem_cons_zero, List.setIfInBounds_toArray, List.set_cons_zero, List.set_cons_succ]
    refine wpAnyH_take (i := 13) (v := ?v14_13) rfl (by kernel_rfl) (by kernel_rfl) (by kernel_rfl) (fun _ _ _ h => h) (Or.inl ⟨by kernel_rfl, ?y14_13⟩) (by assumption) ?r14_13
    case y14_13 => ((intro w hSw; (try dsimp only at hSw); go_simp); (try with_reducible rfl))
    try simp only [Act.put, List.getElem_toArray, List.getElem_cons_succ, List.getElem_cons_zero, List.setIfInBounds_toArray, List.set_cons_zero, List.set_cons_succ]
    refine wpAnyH_ready (rs := [14]) (by kernel_rfl) (by simp) ?_
    refine AllReadyH.cons rfl (fun K hK => ?_) AllReadyH.nil
    simp only [List.getElem_toArray, List.getElem_cons_succ, List.getElem_cons_zero]
    go_simp
    skip
    refine hK.out _ _ ?_ ?_
    · ((try dsimp only); simp [go_sem, hb, c1])
    clear hK K hHeld
    intro hHeld
    try simp only [Act.put, List.getElem_toArray, List.getElem_cons_succ, List.getElem_cons_zero, List.setIfInBounds_toArray, List.set_cons_zero, List.set_cons_succ]
    refine wpAnyH_take (i := 15) (v := ?v16_15) rfl (by kernel_rfl) (by kernel_rfl) (by kernel_rfl) (fun _ _ _ h => h) (Or.inl ⟨by kernel_rfl, ?y16_15⟩) (by assumption) ?r16_15
    case y16_15 => ((intro w hSw; (try dsimp only at hSw); go_simp); (try with_reducible rfl))
    try simp only [Act.put, List.getElem_toArray, List.getElem_cons_succ, List.getElem_cons_zero, List.setIfInBounds_toArray, List.set_cons_zero, List.set_cons_succ]
    refine wpAnyH_done (by kernel_rfl) ?_ _
    clear hHeld
    go_wp2_with (fail)
    go_returns
    exact ⟨rfl, (by repeat' (first | (with_reducible exact Grows.refl _) | (with_reducible refine Grows.alloc ?_ _) | (with_reducible refine Grows.drew ?_) | (with_reducible refine Grows.ext ?_ _ _)))⟩
  · have d0 : decide (0 ≤ x1) = false := by simpa using h0
    rw [d0]
    go_enter Tryd.func87, Tryd.ntmps87
    go_wp2_with (fail)
    refine wp_region_held_drew (S := fun w' => w'.cell? ⟨b, off + 1, none⟩ = some (.int .i64 x1)) (by kernel_rfl) ?_ (fun hHeld => ?_)
    · (simp [go_sem, hb, c1])
    refine wpAnyH_take (i := 0) (v := ?v17_0) rfl (by kernel_rfl) (by kernel_rfl) (by kernel_rfl) (fun _ _ _ h => h) (Or.inl ⟨by kernel_rfl, ?y17_0⟩) (by assumption) ?r17_0
    case y17_0 => ((intro w hSw; (try dsimp only at hSw); go_simp); (try with_reducible rfl))
    try simp only [Act.put, List.getElem_toArray, List.getElem_cons_zero, List.setIfInBounds_toArray, List.set_cons_zero, List.set_cons_succ]
    refine wpAnyH_take (i := 1) (v := ?v18_1) rfl (by kernel_rfl) (by kernel_rfl) (by kernel_rfl) (fun _ _ _ h => h) (Or.inl ⟨by kernel_rfl, ?y18_1⟩) (by assumption) ?r18_1
    case y18_1 => ((intro w hSw; (try dsimp only at hSw); go_simp); (try with_reducible rfl))
    try simp only [Act.put, List.getElem_toArray, List.getElem_cons_succ, List.getElem_cons_zero, List.setIfInBounds_toArray, List.set_cons_zero, List.set_cons_succ]
    refine wpAnyH_take (i := 2) (v := ?v19_2) rfl (by kernel_rfl) (by kernel_rfl) (by kernel_rfl) (fun _ _ _ h => h) (Or.inl ⟨by kernel_rfl, ?y19_2⟩) (by assumption) ?r19_2
    case y19_2 => ((intro w hSw; (try dsimp only at hSw); go_simp); (try with_reducible rfl))
    try simp only [Act.put, List.getElem_toArray, List.getElem_cons_succ, List.getElem_cons_zero, List.setIfInBounds_toArray, List.set_cons_zero, List.set_cons_succ]
    refine wpAnyH_take (i := 4) (v := ?v20_4) rfl (by kernel_rfl) (by kernel_rfl) (by kernel_rfl) (fun _ _ _ h => h) (Or.inl ⟨by kernel_rfl, ?y20_4⟩) (by assumption) ?r20_4
    case y20_4 => ((intro w hSw; (try dsimp only at hSw); go_simp); (try with_reducible rfl))
    try simp only [Act.put, List.getElem_toArray, List.getElem_cons_succ, List.getElem_cons_zero, List.setIfInBounds_toArray, List.set_cons_zero, List.set_cons_succ]
    refine wpAnyH_take (i := 5) (v := ?v21_5) rfl (by kernel_rfl) (by kernel_rfl) (by kernel_rfl) (fun _ _ _ h => h) (Or.inl ⟨by kernel_rfl, ?y21_5⟩) (by assumption) ?r21_5
    case y21_5 => ((intro w hSw; (try dsimp only at hSw); go_simp); (try with_reducible rfl))
    try simp only [Act.put, List.getElem_toArray, List.getElem_cons_succ, List.getElem_cons_zero, List.setIfInBounds_toArray, List.set_cons_zero, List.set_cons_succ]
    refine wpAnyH_take (i := 6) (v := ?v22_6) rfl (by kernel_rfl) (by kernel_rfl) (by kernel_rfl) (fun _ _ _ h => h) (Or.inl ⟨by kernel_rfl, ?y22_6⟩) (by assumption) ?r22_6
    case y22_6 => ((intro w hSw; (try dsimp only at hSw); go_simp); (try with_reducible rfl))
    try simp only [Act.put, List.getElem_toArray, List.getElem_cons_succ, List.getElem_cons_zero, List.setIfInBounds_toArray, List.set_cons_zero, List.set_cons_succ]
    refine wpAnyH_take (i := 7) (v := ?v23_7) rfl (by kernel_rfl) (by kernel_rfl) (by kernel_rfl) (fun _ _ _ h => h) (Or.inl ⟨by kernel_rfl, ?y23_7⟩) (by assumption) ?r23_7
    case y23_7 => ((intro w hSw; (try dsimp only at hSw); go_simp); (try with_reducible rfl))
    try simp only [Act.put, List.getElem_toArray, List.getElem_cons_succ, List.getElem_cons_zero, List.setIfInBounds_toArray, List.set_cons_zero, List.set_cons_succ]
    refine wpAnyH_ready (rs := [3]) (by kernel_rfl) (by simp) ?_
    refine AllReadyH.cons rfl (fun K hK => ?_) AllReadyH.nil
    simp only [List.getElem_toArray, List.getElem_cons_succ, List.getElem_cons_zero]
    go_simp
    (go_at_call 30; (with_reducible refine (pen30_any _ _ _).mono ?_); rintro e w' ⟨rfl, h19, d19, rfl⟩)
    refine hK.out _ _ ?_ ?_
    · ((try dsimp only); simp [go_sem, hb, c1])
    clear hK K hHeld
    intro hHeld
    try simp only [Act.put, List.getElem_toArray, List.getElem_cons_succ, List.getElem_cons_zero, List.setIfInBounds_toArray, List.set_cons_zero, List.set_cons_succ]
    refine wpAnyH_take (i := 8) (v := ?v25_8) rfl (by kernel_rfl) (by kernel_rfl) (by kernel_rfl) (fun _ _ _ h => h) (Or.inl ⟨by kernel_rfl, ?y25_8⟩) (by assumption) ?r25_8
    case y25_8 => ((intro w hSw; (try dsimp only at hSw); go_simp); (try with_reducible rfl))
    try simp only [Act.put, List.getElem_toArray, List.getElem_cons_succ, List.getElem_cons_zero, List.setIfInBounds_toArray, List.set_cons_zero, List.set_cons_succ]
    refine wpAnyH_take (i := 9) (v := undef) rfl (by kernel_rfl) (by kernel_rfl) (by kernel_rfl) (fun _ _ _ h => h) (Or.inr ⟨by kernel_rfl, rfl⟩) hHeld ?_
    refine wpAnyH_take (i := 10) (v := undef) rfl (by kernel_rfl) (by kernel_rfl) (by kernel_rfl) (fun _ _ _ h => h) (Or.inr ⟨by kernel_rfl, rfl⟩) hHeld ?_
    refine wpAnyH_take (i := 11) (v := undef) rfl (by kernel_rfl) (by kernel_rfl) (by kernel_rfl) (fun _ _ _ h => h) (Or.inr ⟨by kernel_rfl, rfl⟩) hHeld ?_
    refine wpAnyH_take (i := 12) (v := undef) rfl (by kernel_rfl) (by kernel_rfl) (by kernel_rfl) (fun _ _ _ h => h) (Or.inr ⟨by kernel_rfl, rfl⟩) hHeld ?_
    try simp only [Act.put, List.getElem_toArray, List.getElem_cons_succ, List.getElem_cons_zero, List.setIfInBounds_toArray, List.set_cons_zero, List.set_cons_succ]
    refine wpAnyH_take (i := 13) (v := ?v30_13) rfl (by kernel_rfl) (by kernel_rfl) (by kernel_rfl) (fun _ _ _ h => h) (Or.inl ⟨by kernel_rfl, ?y30_13⟩) (by assumption) ?r30_13
    case y30_13 => ((intro w hSw; (try dsimp only at hSw); go_simp); (try with_reducible rfl))
    try simp only [Act.put, List.getElem_toArray, List.getElem_cons_succ, List.getElem_cons_zero, List.setIfInBounds_toArray, List.set_cons_zero, List.set_cons_succ]
    refine wpAnyH_ready (rs := [14]) (by kernel_rfl) (by simp) ?_
    refine AllReadyH.cons rfl (fun K hK => ?_) AllReadyH.nil
    simp only [List.getElem_toArray, List.getElem_cons_succ, List.getElem_cons_zero]
    go_simp
    skip
    refine hK.out _ _ ?_ ?_
    · ((try dsimp only); simp [go_sem, hb, c1])
    clear hK K hHeld
    intro hHeld
    try simp only [Act.put, List.getElem_toArray, List.getElem_cons_succ, List.getElem_cons_zero, List.setIfInBounds_toArray, List.set_cons_zero, List.set_cons_succ]
    refine wpAnyH_take (i := 15) (v := ?v32_15) rfl (by kernel_rfl) (by kernel_rfl) (by kernel_rfl) (fun _ _ _ h => h) (Or.inl ⟨by kernel_rfl, ?y32_15⟩) (by assumption) ?r32_15
    case y32_15 => ((intro w hSw; (try dsimp only at hSw); go_simp); (try with_reducible rfl))
    try simp only [Act.put, List.getElem_toArray, List.getElem_cons_succ, List.getElem_cons_zero, List.setIfInBounds_toArray, List.set_cons_zero, List.set_cons_succ]
    refine wpAnyH_done (by kernel_rfl) ?_ _
    clear hHeld
    go_wp2_with (fail)
    go_returns
    exact ⟨rfl, (by repeat' (first | (with_reducible exact Grows.refl _) | (with_reducible refine Grows.alloc ?_ _) | (with_reducible refine Grows.drew ?_) | (with_reducible refine Grows.ext ?_ _ _)))⟩
set_option maxHeartbeats 1000000 in
theorem parts_none (s : List Int) (v : Value) (w : World) (h : IntsAt w v s) (hl : 2 ≤ s.length) (hl6 : s.length ≤ 100000) (h4 : ¬ (max 0 (s[0]?.getD (0 : Int)) = 4 ∧ s.length = 2)) (hn : ofB (max 0 (s[0]?.getD (0 : Int))) = false ∨ s.length = 2) : Calls Tryd.prog 87 #[v] w (Ret (.tuple #[.agg #[.int .i64 0, .int .i64 0, .int .i64 0, .int .i64 0, .int .i64 0, .string ⟨#[]⟩], .bool false]) w) := by
  obtain ⟨p, cap, rfl, hcap, hin⟩ := h
  obtain ⟨b, off, rfl, hb, hc⟩ := hin (by intro e; rw [e] at hl; simp at hl)
  have c0 := hc 0 (by omega)
  have c1 := hc 1 (by omega)
  simp only [Nat.add_zero] at c0
  clear hin hc hcap
  generalize s[0]?.getD (0 : Int) = x0 at *
  generalize s[1]?.getD (0 : Int) = x1 at *
  generalize s.length = n at *
  by_cases hx : 0 < x0
  · have em : max 0 x0 = x0 := by omega
    rw [em] at h4 hn
    have HO := Lib.hid (of_any x0)
    generalize ofB x0 = ob at *
    generalize ofN x0 = on at *
    clear em
    by_cases g4 : x0 = 4
    · have e4 : (x0 == 4) = true := by simpa using g4
      have e2 : ((n : Int) == 2) = false := by simp; omega
      obtain rfl : ob = false := by
        rcases hn with h | h
        · exact h
        · exact absurd ⟨g4, h⟩ h4
      clear h4 hn g4
      go_enter Tryd.func87, Tryd.ntmps87
      go_wp2_with (first | (go_at_call 88; (with_reducible refine (HO.out _).mono ?_); rintro e w' ⟨rfl, rfl⟩))
      go_returns
      exact ⟨rfl, (by repeat' (first | (with_reducible exact Grows.refl _) | (with_reducible refine Grows.alloc ?_ _) | (with_reducible refine Grows.drew ?_) | (with_reducible refine Grows.ext ?_ _ _)))⟩
    · have e4 : (x0 == 4) = false := by simpa using g4
      cases ob with
      | false =>
        clear h4 hn g4
        go_enter Tryd.func87, Tryd.ntmps87
        go_wp2_with (first | (go_at_call 88; (with_reducible refine (HO.out _).mono ?_); rintro e w' ⟨rfl, rfl⟩))
        go_returns
        exact ⟨rfl, (by repeat' (first | (with_reducible exact Grows.refl _) | (with_reducible refine Grows.alloc ?_ _) | (with_reducible refine Grows.drew ?_) | (with_reducible refine Grows.ext ?_ _ _)))⟩
      | true =>
        obtain rfl : n = 2 := by simpa using hn
        clear h4 hn g4
        go_enter Tryd.func87, Tryd.ntmps87
        go_wp2_with (first | (go_at_call 88; (with_reducible refine (HO.out _).mono ?_); rintro e w' ⟨rfl, rfl⟩))
        go_returns
        exact ⟨rfl, (by repeat' (first | (with_reducible exact Grows.refl _) | (with_reducible refine Grows.alloc ?_ _) | (with_reducible refine Grows.drew ?_) | (with_reducible refine Grows.ext ?_ _ _)))⟩
  · have hx' : x0 ≤ 0 := by omega
    have em : max 0 x0 = 0 := by omega
    clear hx em h4 hn
    have HO := Lib.hid (of_any 0)
    have e1 : ofB 0 = false := rfl
    have e2 : ofN 0 = 0 := rfl
    rw [e1, e2] at HO
    go_enter Tryd.func87, Tryd.ntmps87
    go_wp2_with (first | (go_at_call 88; (with_reducible refine (HO.out _).mono ?_); rintro e w' ⟨rfl, rfl⟩))
    go_returns
    exact ⟨rfl, (by repeat' (first | (with_reducible exact Grows.refl _) | (with_reducible refine Grows.alloc ?_ _) | (with_reducible refine Grows.drew ?_) | (with_reducible refine Grows.ext ?_ _ _)))⟩
theorem ofB_pos {x : Int} (h : ofB (max 0 x) = true) : 0 < x ∧ max 0 x = x := by
  by_cases hx : 0 < x
  · exact ⟨hx, by omega⟩
  · rw [show max 0 x = 0 by omega] at h
    cases h
set_option maxHeartbeats 1000000 in
theorem parts_six (x0 x1 x2 x3 x4 x5 : Int) (v : Value) (w : World) (h : IntsAt w v [x0, x1, x2, x3, x4, x5]) (hn : ofB (max 0 x0) = true) (h2 : x1 = 2) : Calls Tryd.prog 87 #[v] w (Ret (.tuple #[.agg #[.int .i64 (kd (shade (ofN (max 0 x0)) 2 [x3, x4, x5]).2), .int .i64 (shade (ofN (max 0 x0)) 2 [x3, x4, x5]).1.n, .int .i64 (shade (ofN (max 0 x0)) 2 [x3, x4, x5]).1.m, .int .i64 (shade (ofN (max 0 x0)) 2 [x3, x4, x5]).1.ck, .int .i64 (shade (ofN (max 0 x0)) 2 [x3, x4, x5]).1.cn, .string ⟨#[]⟩], .bool (shade (ofN (max 0 x0)) 2 [x3, x4, x5]).2]) w) := by
  have hl : 2 ≤ [x0, x1, x2, x3, x4, x5].length := by simp
  obtain ⟨hx, em⟩ := ofB_pos hn
  rw [em] at hn ⊢
  obtain ⟨p, cap, rfl, hcap, hin⟩ := h
  obtain ⟨b, off, rfl, hb, hc⟩ := hin (by intro e; rw [e] at hl; simp at hl)
  have c0 := hc 0 (by omega)
  have c1 := hc 1 (by omega)
  simp only [Nat.add_zero] at c0
  have HH : IntsAt w (.slice (some ⟨b, off + 3, none⟩) 3 (cap - 3)) [x3, x4, x5] := IntsAt.drop hb hcap hc 3 3 (cap - 3) (off + 3) (by simp) (by simp) (by simp at hcap ⊢; omega) rfl
  simp only [List.length_cons, List.length_nil, Nat.zero_add, Nat.reduceAdd, List.getElem?_cons_zero, List.getElem?_cons_succ, Option.getD_some] at *
  subst h2
  have e4 : (x0 == 4) = false := by
    rw [beq_eq_false_iff_ne]
    rintro rfl
    cases hn
  have HO := Lib.hid (of_any x0)
  have HS := Lib.hid fun n W hW => shade_any n 2 (.slice (some ⟨b, off + 3, none⟩) 3 (cap - 3)) [x3, x4, x5] (by simp) W hW
  have HHh := Lib.hid HH
  have hc3 : ¬ cap = 3 := by omega
  have hc4 : 3 ≤ cap := by omega
  clear hin hc HH hl em
  generalize ofB x0 = ob at *
  subst hn
  generalize ofN x0 = on at *
  go_enter Tryd.func87, Tryd.ntmps87
  go_wp2_with (first | (go_at_call 88; (with_reducible refine (HO.out _).mono ?_); rintro e w' ⟨rfl, rfl⟩) | (go_at_call 89; (with_reducible refine (HS.out _ _ (HHh.out.grows (by repeat' (first | (with_reducible exact Grows.refl _) | (with_reducible refine Grows.alloc ?_ _) | (with_reducible refine Grows.drew ?_) | (with_reducible refine Grows.ext ?_ _ _))))).mono ?_); rintro e w' ⟨rfl, h24, d24, rfl⟩))
  go_returns
  exact ⟨rfl, (by repeat' (first | (with_reducible exact Grows.refl _) | (with_reducible refine Grows.alloc ?_ _) | (with_reducible refine Grows.drew ?_) | (with_reducible refine Grows.ext ?_ _ _)))⟩
set_option maxHeartbeats 2000000 in
theorem parts_more (s : List Int) (v : Value) (w : World) (h : IntsAt w v s) (hl : 2 ≤ s.length) (hl2 : 2 < s.length) (hl6 : s.length ≤ 100000) (hn : ofB (max 0 (s[0]?.getD (0 : Int))) = true) (h2 : ¬ (s.length = 6 ∧ s[1]?.getD (0 : Int) = 2)) : Calls Tryd.prog 87 #[v] w (Ret (.tuple #[.agg #[.int .i64 (kd (shade (ofN (max 0 (s[0]?.getD 0))) (s[1]?.getD 0) (s.drop 2)).2), .int .i64 (shade (ofN (max 0 (s[0]?.getD 0))) (s[1]?.getD 0) (s.drop 2)).1.n, .int .i64 (shade (ofN (max 0 (s[0]?.getD 0))) (s[1]?.getD 0) (s.drop 2)).1.m, .int .i64 (shade (ofN (max 0 (s[0]?.getD 0))) (s[1]?.getD 0) (s.drop 2)).1.ck, .int .i64 (shade (ofN (max 0 (s[0]?.getD 0))) (s[1]?.getD 0) (s.drop 2)).1.cn, .string ⟨#[]⟩], .bool (shade (ofN (max 0 (s[0]?.getD 0))) (s[1]?.getD 0) (s.drop 2)).2]) w) := by
  obtain ⟨hx, em⟩ := ofB_pos hn
  rw [em] at hn ⊢
  obtain ⟨p, cap, rfl, hcap, hin⟩ := h
  obtain ⟨b, off, rfl, hb, hc⟩ := hin (by intro e; rw [e] at hl; simp at hl)
  have c0 := hc 0 (by omega)
  have c1 := hc 1 (by omega)
  simp only [Nat.add_zero] at c0
  have HH : IntsAt w (.slice (some ⟨b, off + 2, none⟩) (s.length - 2) (cap - 2)) (s.drop 2) := IntsAt.drop hb hcap hc 2 (s.length - 2) (cap - 2) (off + 2) (by omega) rfl (by omega) rfl
  have hlen : (s.drop 2).length ≤ 100000 := by rw [List.length_drop]; omega
  have HS := Lib.hid fun m k W hW => shade_any m k (.slice (some ⟨b, off + 2, none⟩) (s.length - 2) (cap - 2)) (s.drop 2) hlen W hW
  have HHh := Lib.hid HH
  clear hin hc HH em hlen
  generalize s[0]?.getD (0 : Int) = x0 at *
  generalize s[1]?.getD (0 : Int) = x1 at *
  generalize s.drop 2 = t at *
  generalize s.length = n at *
  have e4 : (x0 == 4) = false := by
    rw [beq_eq_false_iff_ne]
    rintro rfl
    cases hn
  have HO := Lib.hid (of_any x0)
  have hc3 : ¬ cap = 2 := by omega
  have hc4 : 2 ≤ cap := by omega
  have hc5 : 2 ≤ n := by omega
  have e5 : decide ((n : Int) > 2) = true := by simp; omega
  generalize ofB x0 = ob at *
  subst hn
  generalize ofN x0 = on at *
  have e6 : ((n : Int) == 6 && x1 == 2) = false := by
    rw [Bool.and_eq_false_iff, beq_eq_false_iff_ne, beq_eq_false_iff_ne]
    omega
  by_cases g6 : n = 6
  · have e7 : ((n : Int) == 6) = true := by simp; omega
    have e8 : (x1 == 2) = false := by
      rw [beq_eq_false_iff_ne]
      omega
    clear e6 g6 h2
    go_enter Tryd.func87, Tryd.ntmps87
    go_wp2_with (first | (go_at_call 88; (with_reducible refine (HO.out _).mono ?_); rintro e w' ⟨rfl, rfl⟩))
    refine wp_region_grow_tail 9 (by kernel_rfl) (by kernel_rfl) ?_
    simp only [List.take_succ_cons, List.take_zero, List.drop_succ_cons, List.drop_zero]
    repeat (first | go_big_quiet_step ((first | (rename_i xg; go_at_call 89; (with_reducible refine (HS.out _ _ _ (HHh.out.grows (by repeat' (first | (with_reducible exact Grows.refl _) | (with_reducible refine Grows.alloc ?_ _) | (with_reducible refine Grows.drew ?_) | (with_reducible refine Grows.ext ?_ _ _))))).mono ?_); rintro _ _ ⟨rfl, h0, d0, rfl⟩; exact ⟨rfl, Gr.mk (xg.h ++ h0) d0, by simp only [ext_ext, Gr.h_mk, Gr.d_mk]⟩))) | quiet_step ((first | (rename_i xg; go_at_call 89; (with_reducible refine (HS.out _ _ _ (HHh.out.grows (by repeat' (first | (with_reducible exact Grows.refl _) | (with_reducible refine Grows.alloc ?_ _) | (with_reducible refine Grows.drew ?_) | (with_reducible refine Grows.ext ?_ _ _))))).mono ?_); rintro _ _ ⟨rfl, h0, d0, rfl⟩; exact ⟨rfl, Gr.mk (xg.h ++ h0) d0, by simp only [ext_ext, Gr.h_mk, Gr.d_mk, Array.append_assoc]⟩))))
    refine wpQuiet_nil ?_
    rintro _ ⟨g26, rfl⟩
    go_wp2_with (fail)
    go_returns
    exact ⟨rfl, (by repeat' (first | (with_reducible exact Grows.refl _) | (with_reducible refine Grows.alloc ?_ _) | (with_reducible refine Grows.drew ?_) | (with_reducible refine Grows.ext ?_ _ _)))⟩
  · have e7 : ((n : Int) == 6) = false := by simp; omega
    clear e6 g6 h2
    go_enter Tryd.func87, Tryd.ntmps87
    go_wp2_with (first | (go_at_call 88; (with_reducible refine (HO.out _).mono ?_); rintro e w' ⟨rfl, rfl⟩))
    refine wp_region_grow_tail 9 (by kernel_rfl) (by kernel_rfl) ?_
    simp only [List.take_succ_cons, List.take_zero, List.drop_succ_cons, List.drop_zero]
    repeat (first | go_big_quiet_step ((first | (rename_i xg; go_at_call 89; (with_reducible refine (HS.out _ _ _ (HHh.out.grows (by repeat' (first | (with_reducible exact Grows.refl _) | (with_reducible refine Grows.alloc ?_ _) | (with_reducible refine Grows.drew ?_) | (with_reducible refine Grows.ext ?_ _ _))))).mono ?_); rintro _ _ ⟨rfl, h0, d0, rfl⟩; exact ⟨rfl, Gr.mk (xg.h ++ h0) d0, by simp only [ext_ext, Gr.h_mk, Gr.d_mk]⟩))) | quiet_step ((first | (rename_i xg; go_at_call 89; (with_reducible refine (HS.out _ _ _ (HHh.out.grows (by repeat' (first | (with_reducible exact Grows.refl _) | (with_reducible refine Grows.alloc ?_ _) | (with_reducible refine Grows.drew ?_) | (with_reducible refine Grows.ext ?_ _ _))))).mono ?_); rintro _ _ ⟨rfl, h0, d0, rfl⟩; exact ⟨rfl, Gr.mk (xg.h ++ h0) d0, by simp only [ext_ext, Gr.h_mk, Gr.d_mk, Array.append_assoc]⟩))))
    refine wpQuiet_nil ?_
    rintro _ ⟨g26, rfl⟩
    go_wp2_with (fail)
    go_returns
    exact ⟨rfl, (by repeat' (first | (with_reducible exact Grows.refl _) | (with_reducible refine Grows.alloc ?_ _) | (with_reducible refine Grows.drew ?_) | (with_reducible refine Grows.ext ?_ _ _)))⟩
theorem ofV_of {v n : Int} (h : ofV v = some n) : ofB v = true ∧ ofN v = n := by simp [ofB, ofN, h]
theorem ofV_no {v : Int} (h : ofV v = none) : ofB v = false := by simp [ofB, h]
theorem parts_any (s : List Int) (v : Value) (w : World) (h : IntsAt w v s) (hl : 2 ≤ s.length) (hl6 : s.length ≤ 100000) : Calls Tryd.prog 87 #[v] w (Ret (.tuple #[.agg #[.int .i64 (kdP s), .int .i64 (partsP s).1.n, .int .i64 (partsP s).1.m, .int .i64 (partsP s).1.ck, .int .i64 (partsP s).1.cn, .string ⟨#[]⟩], .bool (partsP s).2]) w) := by
  by_cases h4 : max 0 (s[0]?.getD (0 : Int)) = 4 ∧ s.length = 2
  · obtain ⟨h0, h2⟩ := h4
    obtain ⟨x0, x1, rfl⟩ : ∃ x0 x1, s = [x0, x1] := by
      match s, h2 with
      | [a, b], _ => exact ⟨a, b, rfl⟩
    have h0' : max 0 x0 = 4 := h0
    have e : partsP [x0, x1] = (pen 3 x1, decide (0 ≤ x1) && decide (x1 ≤ 5)) := by simp [partsP, h0']
    have e2 : kdP [x0, x1] = 39 := by simp [kdP, h0']
    rw [e, e2]
    exact parts_four x0 x1 v w h h0'
  · have ek : kdP s = kd (partsP s).2 := by
      unfold kdP
      rw [if_neg (by simpa using h4)]
    rw [ek]
    cases hof : ofV (max 0 (s[0]?.getD (0 : Int))) with
    | none =>
      have e : partsP s = (noPen, false) := by
        unfold partsP
        simp only [List.getD_eq_getElem?_getD]
        rw [if_neg h4, hof]
      rw [e]
      exact parts_none s v w h hl hl6 h4 (Or.inl (ofV_no hof))
    | some n =>
      obtain ⟨hB, hN⟩ := ofV_of hof
      by_cases h6 : s.length = 6 ∧ s[1]?.getD (0 : Int) = 2
      · obtain ⟨h6, h1⟩ := h6
        have e : partsP s = shade n 2 (s.drop 3) := by
          unfold partsP
          simp only [List.getD_eq_getElem?_getD]
          rw [if_neg h4, hof]
          simp only []
          rw [if_pos ⟨h6, h1⟩]
        rw [e]
        obtain ⟨x0, x1, x2, x3, x4, x5, rfl⟩ : ∃ x0 x1 x2 x3 x4 x5, s = [x0, x1, x2, x3, x4, x5] := by
          match s, h6 with
          | [a, b, c, d, e, f], _ => exact ⟨a, b, c, d, e, f, rfl⟩
        have := parts_six x0 x1 x2 x3 x4 x5 v w h hB h1
        rw [show ofN (max 0 x0) = n from hN] at this
        exact this
      · by_cases h2 : 2 < s.length
        · have e : partsP s = shade n (s[1]?.getD 0) (s.drop 2) := by
            unfold partsP
            simp only [List.getD_eq_getElem?_getD]
            rw [if_neg h4, hof]
            simp only []
            rw [if_neg h6, if_pos h2]
          rw [e]
          have := parts_more s v w h hl h2 hl6 hB h6
          rw [hN] at this
          exact this
        · have e : partsP s = (noPen, false) := by
            unfold partsP
            simp only [List.getD_eq_getElem?_getD]
            rw [if_neg h4, hof]
            simp only []
            rw [if_neg h6, if_neg h2]
          rw [e]
          exact parts_none s v w h hl hl6 h4 (Or.inr (by omega))
end Go.Proofs.YtobbphkfdhjmdaaDoor

