/-
  Walks: the pens.
-/
import Derived.Test.YtafokiobbceibaaRows
import Derived.Test.YtafokiobbceibaaLt
import Derived.Test.YtafokiobbceibaaDefs
import Derived.Test.YtafokiobbceibaaBits
import Derived.Test.YtafokiobbceibaaMaps
import Derived.WalkKit
import Derived.WalkSpells
import Derived.WalkLawsBesides
import Derived.Handy
import Derived.Carry
import Derived.Laws.EntriesVeiled
import Derived.Lib.Hide
import Derived.Deep.Light
import Derived.Deep.LoopGhost
import Derived.BigGuardPart
import Derived.BigQuiet
import Derived.Deep.QuietTactic
import Derived.Deep.RegionHeld3
import Derived.Test.YtafokiobbceibaaReg
import Derived.Test.YtafokiobbceibaaReg3
import Derived.Test.YtafokiobbceibaaReg4
namespace Go.Proofs.Ytafokiobbceibaa
open Go.RowKit


set_option maxHeartbeats 1000000 in
theorem colour_any (k : Nat) (w : World) : Calls Try.prog 35 #[.func (.func k) #[] #[]] w (fun e w' => e = .returned (.agg #[.func (.func 36) #[] #[], .bool true, .func (.func 37) #[] #[.pointer (some ⟨w.heap.size, 0, none⟩)]]) ∧ w' = (w.alloc (.cells #[.func (.func k) #[] #[]] 74)).alloc (.cells #[.func (.func 36) #[] #[], .bool true, .func (.func 37) #[] #[.pointer (some ⟨w.heap.size, 0, none⟩)]] 65)) := by
  go_enter Try.func35, Try.ntmps35
  go_wp2
  go_returns
  exact ⟨rfl, rfl⟩
def FnAt (w : World) (C k : Nat) : Prop := C < w.heap.size ∧ w.cell? ⟨C, 0, none⟩ = some (.func (.func k) #[] #[])
theorem FnAt.grows {w w' : World} {C k : Nat} (h : FnAt w C k) (g : Grows w w') : FnAt w' C k := by
  obtain ⟨x, d, rfl⟩ := g
  exact ⟨by rw [ext_size]; have := h.1; omega, by rw [ext_cell _ _ _ _ _ h.1]; exact h.2⟩
def penEs (C1 C2 C3 : Nat) : Array MapEntry := #[
  { key := .int .i64 0, val := .agg #[.func (.func 36) #[] #[], .bool false, .func (.func 38) #[] #[]], born := 0 },
  { key := .int .i64 1, val := .agg #[.func (.func 39) #[] #[], .bool false, .func (.func 40) #[] #[]], born := 1 },
  { key := .int .i64 2, val := .agg #[.func (.func 41) #[] #[], .bool false, .func (.func 42) #[] #[]], born := 2 },
  { key := .int .i64 3, val := .agg #[.func (.func 43) #[] #[], .bool false, .func (.func 44) #[] #[]], born := 3 },
  { key := .int .i64 4, val := .agg #[.func (.func 36) #[] #[], .bool true, .func (.func 37) #[] #[.pointer (some ⟨C1, 0, none⟩)]], born := 4 },
  { key := .int .i64 5, val := .agg #[.func (.func 36) #[] #[], .bool true, .func (.func 37) #[] #[.pointer (some ⟨C2, 0, none⟩)]], born := 5 },
  { key := .int .i64 6, val := .agg #[.func (.func 36) #[] #[], .bool true, .func (.func 37) #[] #[.pointer (some ⟨C3, 0, none⟩)]], born := 6 }]
def PensAt (w : World) (B C1 C2 C3 : Nat) : Prop := B < w.heap.size ∧ isMap w B = true ∧ mapEs w B = penEs C1 C2 C3 ∧ FnAt w C1 45 ∧ FnAt w C2 46 ∧ FnAt w C3 47
theorem PensAt.grows {w w' : World} {B C1 C2 C3 : Nat} (h : PensAt w B C1 C2 C3) (g : Grows w w') : PensAt w' B C1 C2 C3 := by
  obtain ⟨h0, h1, h2, h3, h4, h5⟩ := h
  have g' := g
  obtain ⟨x, d, rfl⟩ := g
  exact ⟨by rw [ext_size]; omega, by rw [isMap_ext _ _ _ _ h0]; exact h1, by rw [mapEs_ext _ _ _ _ h0]; exact h2, h3.grows g', h4.grows g', h5.grows g'⟩
theorem alloc_mapClk (w : World) (o : Obj) (r : Nat) (hr : r < w.heap.size) : mapClk (w.alloc o) r = mapClk w r := mapClk_alloc w o r hr
@[go_sem] theorem insMap_alloc (w : World) (o : Obj) (r : Nat) (k v : Value) (hr : r < w.heap.size) : insMap (w.alloc o) r k v = (insMap w r k v).alloc o := by
  simp only [insMap, mapEs_alloc w o r hr, mapClk_alloc w o r hr]
  show ({ w with heap := (w.heap.push o).setIfInBounds r _ } : World) = { w with heap := (w.heap.setIfInBounds r _).push o }
  simp only [World.mk.injEq, and_true]
  apply Array.ext_getElem?
  intro i
  simp only [Array.getElem?_setIfInBounds, Array.getElem?_push, Array.size_push, Array.size_setIfInBounds]
  by_cases hi : r = i
  · subst hi
    have h1 : ¬ r = w.heap.size := by omega
    have h2 : r < w.heap.size + 1 := by omega
    simp [h1, h2, hr]
  · simp [hi]
theorem ins67 (w : World) (r : Nat) (k : Int) (v : Value) (h : isMap w r = true) (hf : freshK k (mapEs w r).toList = true) : (Instr.mapUpdate 67 (.map (some r)) (.int .i64 k) v).run Try.prog w = .ok () (insMap w r (.int .i64 k) v) :=
  run_ins Try.underlying67 Try.underlying3 w r k v h hf
set_option maxHeartbeats 8000000 in
theorem pens_full (w : World) : Calls Try.prog 31 #[] w (fun e w' => e = .returned (.map (some w.heap.size)) ∧ w' = (((((((w.alloc (.map (penEs (w.heap.size + 1) (w.heap.size + 1 + 1 + 1) (w.heap.size + 1 + 1 + 1 + 1 + 1)) 7)).alloc (.cells #[.func (.func 45) #[] #[]] 74)).alloc (.cells #[.func (.func 36) #[] #[], .bool true, .func (.func 37) #[] #[.pointer (some ⟨w.heap.size + 1, 0, none⟩)]] 65)).alloc (.cells #[.func (.func 46) #[] #[]] 74)).alloc (.cells #[.func (.func 36) #[] #[], .bool true, .func (.func 37) #[] #[.pointer (some ⟨w.heap.size + 1 + 1 + 1, 0, none⟩)]] 65)).alloc (.cells #[.func (.func 47) #[] #[]] 74)).alloc (.cells #[.func (.func 36) #[] #[], .bool true, .func (.func 37) #[] #[.pointer (some ⟨w.heap.size + 1 + 1 + 1 + 1 + 1, 0, none⟩)]] 65))) := by
  have hins := ins67
  have hmm := @run_makeMap Try.prog
  go_enter Try.func31, Try.ntmps31
  go_wp2_with (go_at_call 35; (with_reducible refine (colour_any _ _).mono ?_); rintro e w' ⟨rfl, rfl⟩)
  go_returns
  exact ⟨rfl, rfl⟩
theorem pens_any (w : World) : Calls Try.prog 31 #[] w (fun e w' => ∃ B C1 C2 C3 : Nat, e = .returned (.map (some B)) ∧ PensAt w' B C1 C2 C3 ∧ Grows w w' ∧ w.heap.size ≤ B) := by
  refine (pens_full w).mono ?_
  rintro e w' ⟨rfl, rfl⟩
  exact ⟨w.heap.size, w.heap.size + 1, w.heap.size + 1 + 1 + 1, w.heap.size + 1 + 1 + 1 + 1 + 1, rfl, ⟨by simp [go_sem], by simp [go_sem], by simp [go_sem], ⟨by simp [go_sem], by simp [go_sem]⟩, ⟨by simp [go_sem], by simp [go_sem]⟩, ⟨by simp [go_sem], by simp [go_sem]⟩⟩, (by repeat' (first | (with_reducible exact Grows.refl _) | (with_reducible refine Grows.alloc ?_ _) | (with_reducible refine Grows.drew ?_) | (with_reducible refine Grows.ext ?_ _ _))), Nat.le_refl _⟩
end Go.Proofs.Ytafokiobbceibaa
