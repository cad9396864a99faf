/-
  Worlds that have only grown: what a callee leaves behind it, as one word that the walk's own rules see through. No program in sight.
-/
import Derived.WalkKit
namespace Go.Proofs.Ytepbknpdhiaepaa
open Go.RowKit

/-- The world w with more blocks behind its own, and with another count of draws. -/
def ext (w : World) (h : Array Obj) (d : Nat) : World := { w with heap := w.heap ++ h, drawn := d }
section
variable (w : World) (h : Array Obj) (d : Nat)
@[simp, go_sem] theorem ext_size : (ext w h d).heap.size = w.heap.size + h.size := by simp [ext]
@[simp, go_sem] theorem ext_tape : (ext w h d).tape = w.tape := rfl
@[simp, go_sem] theorem ext_os : (ext w h d).os = w.os := rfl
@[simp, go_sem] theorem ext_output : (ext w h d).output = w.output := rfl
theorem ext_heap (k : Nat) (hk : k < w.heap.size) : (ext w h d).heap[k]? = w.heap[k]? := by
  show (w.heap ++ h)[k]? = _
  rw [Array.getElem?_append_left hk]
@[go_sem] theorem ext_cell (n i : Nat) (hn : n < w.heap.size) : (ext w h d).cell? ⟨n, i, none⟩ = w.cell? ⟨n, i, none⟩ :=
  World.cell?_of_block (w := w) (ext_heap w h d n hn)
@[go_sem] theorem ext_frozen (n i : Nat) (hn : n < w.heap.size) : (ext w h d).frozen? ⟨n, i, none⟩ = w.frozen? ⟨n, i, none⟩ :=
  World.frozen?_of_block (w := w) (ext_heap w h d n hn)
@[go_sem] theorem ext_setCell (n i : Nat) (v : Value) (hn : n < w.heap.size) : (ext w h d).setCell ⟨n, i, none⟩ v = ext (w.setCell ⟨n, i, none⟩ v) h d := by
  simp only [ext, World.setCell]
  congr 1
  apply Array.ext_getElem?
  intro k
  simp only [Array.getElem?_modify, Array.getElem?_append, Array.size_modify]
  by_cases hk : k < w.heap.size
  · simp [hk]
  · have : n ≠ k := by omega
    simp [hk, this]
@[go_sem] theorem ext_ext (h' : Array Obj) (d' : Nat) : ext (ext w h d) h' d' = ext w (h ++ h') d' := by
  simp [ext, Array.append_assoc]
@[go_sem] theorem ext_drew_in : ext w.drew h d = ext w h d := rfl
@[go_sem] theorem lt_add_deep (a b c : Nat) (hab : a < b) : a < b + c := Nat.lt_add_right c hab
end
/-- w' is w grown: nothing that was there has turned. -/
def Grows (w w' : World) : Prop := ∃ h d, w' = ext w h d
theorem Grows.refl (w : World) : Grows w w := ⟨#[], w.drawn, by simp [ext]⟩
theorem Grows.alloc {w w' : World} (g : Grows w w') (o : Obj) : Grows w (w'.alloc o) := by
  obtain ⟨h, d, rfl⟩ := g
  exact ⟨h.push o, d, by simp [ext, World.alloc]⟩
theorem Grows.drew {w w' : World} (g : Grows w w') : Grows w w'.drew := by
  obtain ⟨h, d, rfl⟩ := g
  exact ⟨h, d + 1, rfl⟩
theorem Grows.ext {w w' : World} (g : Grows w w') (h : Array Obj) (d : Nat) : Grows w (ext w' h d) := by
  obtain ⟨h', d', rfl⟩ := g
  exact ⟨h' ++ h, d, ext_ext _ _ _ _ _⟩
theorem Grows.trans {w w' w'' : World} (g : Grows w w') (g' : Grows w' w'') : Grows w w'' := by
  obtain ⟨h, d, rfl⟩ := g'
  exact g.ext h d
theorem Grows.setCell {w w' : World} (g : Grows w w') {n i : Nat} (hn : w.heap.size ≤ n) (v : Value) : Grows w (w'.setCell ⟨n, i, none⟩ v) := by
  obtain ⟨h, d, rfl⟩ := g
  refine ⟨h.modify (n - w.heap.size) fun o => match o with | .cells c e f => .cells (c.setIfInBounds i v) e f | o => o, d, ?_⟩
  simp only [Proofs.Ytepbknpdhiaepaa.ext, World.setCell]
  congr 1
  apply Array.ext_getElem?
  intro k
  simp only [Array.getElem?_modify, Array.getElem?_append]
  by_cases hk : k < w.heap.size
  · have : n ≠ k := by omega
    simp [hk, this]
  · by_cases hnk : n = k
    · subst hnk
      simp only [hk, if_true, if_false]
      exact congrArg (fun f => Option.map f _) (funext fun o => by cases o <;> rfl)
    · have : ¬ (n - w.heap.size = k - w.heap.size) := by omega
      simp [hk, hnk, this]
theorem Grows.below {w w' : World} (g : Grows w w') : Below w.heap.size w w' := by
  obtain ⟨h, d, rfl⟩ := g
  exact ⟨rfl, rfl, rfl, by simp, fun k hk => ext_heap w h d k hk⟩
theorem Grows.of_below {w w' : World} (b : Below w.heap.size w w') : Grows w w' := by
  refine ⟨w'.heap.extract w.heap.size w'.heap.size, w'.drawn, ?_⟩
  have hh : w'.heap = w.heap ++ w'.heap.extract w.heap.size w'.heap.size := by
    apply Array.ext_getElem?
    intro k
    rw [Array.getElem?_append]
    split
    · exact b.block k ‹_›
    · rw [Array.getElem?_extract]
      have := b.size
      split
      · congr 1
        omega
      · rw [Array.getElem?_eq_none]
        omega
  have h1 := b.os; have h2 := b.tape; have h3 := b.output
  show w' = ⟨w.heap ++ w'.heap.extract w.heap.size w'.heap.size, w.tape, w'.drawn, w.os, w.output⟩
  rw [← hh, ← h1, ← h2, ← h3]
/-- A call that returns v and leaves the world grown. -/
def Ret (v : Value) (w : World) (e : Ending) (w' : World) : Prop := e = .returned v ∧ Grows w w'
theorem Ret.trans {v : Value} {w w1 w2 : World} {e : Ending} (g : Grows w w1) (h : Ret v w1 e w2) : Ret v w e w2 := ⟨h.1, g.trans h.2⟩
theorem ret_bool {a b : Bool} (h : a = b) : Ending.returned (.bool a) = .returned (.bool b) := by rw [h]
theorem ret_int {k : IntKind} {a b : Int} (h : a = b) : Ending.returned (.int k a) = .returned (.int k b) := by rw [h]
end Go.Proofs.Ytepbknpdhiaepaa
