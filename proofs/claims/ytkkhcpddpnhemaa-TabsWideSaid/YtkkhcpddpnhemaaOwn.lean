/-
  A row of bools that the call itself made. No program in sight.
-/
import Derived.Test.YtkkhcpddpnhemaaDefs
import Derived.OwnWalk
namespace Go.Proofs.Ytkkhcpddpnhemaa
open Go.RowKit
/-- A row of the call's own, from block base on: its first cells are vs. -/
def OwnC (base : Nat) (t : TypeId) (w : World) (a : Option Addr) (vs : List Value) : Prop :=
  ∃ g cur, a = some ⟨g, 0, none⟩ ∧ base ≤ g ∧ w.heap[g]? = some (.cells cur t (0, 0)) ∧ cur.toList.take vs.length = vs
def Own (base : Nat) (w : World) (a : Option Addr) (l : List Bool) : Prop := OwnC base 4 w a (l.map Value.bool)
theorem OwnC.at {base : Nat} {t : TypeId} {w : World} {g : Nat} {vs : List Value} (h : OwnC base t w (some ⟨g, 0, none⟩) vs) : base ≤ g ∧ g < w.heap.size ∧ (∀ j, j < vs.length → w.cell? ⟨g, j, none⟩ = vs[j]?) ∧ ∀ j, w.frozen? ⟨g, j, none⟩ = false := by
  obtain ⟨g', cur, e, hb, hh, ht⟩ := h
  cases e
  refine ⟨hb, (Array.getElem?_eq_some_iff.1 hh).1, fun j hj => ?_, fun j => frozen_of_row w g j cur t hh⟩
  rw [cell_of_row w g j cur t (0, 0) hh, ← ht, List.getElem?_take]
  rw [if_pos hj]
  simp
theorem OwnC.some {base : Nat} {t : TypeId} {w : World} {a : Option Addr} {vs : List Value} (h : OwnC base t w a vs) : ∃ g, a = Option.some ⟨g, 0, none⟩ := by
  obtain ⟨g', cur, e, _⟩ := h
  exact ⟨g', e⟩
theorem OwnC.grows {base : Nat} {t : TypeId} {w w' : World} {a : Option Addr} {vs : List Value} (h : OwnC base t w a vs) (g : Grows w w') : OwnC base t w' a vs := by
  obtain ⟨g', cur, e, hb, hh, ht⟩ := h
  exact ⟨g', cur, e, hb, (g.below.block g' (Array.getElem?_eq_some_iff.1 hh).1).trans hh, ht⟩
theorem OwnC.mono {base base' : Nat} {t : TypeId} {w : World} {a : Option Addr} {vs : List Value} (h : OwnC base t w a vs) (hb : base' ≤ base) : OwnC base' t w a vs := by
  obtain ⟨g', cur, e, hb', hh, ht⟩ := h
  exact ⟨g', cur, e, Nat.le_trans hb hb', hh, ht⟩
theorem OwnC.set {base : Nat} {t : TypeId} {w : World} {g i : Nat} {vs : List Value} (h : OwnC base t w (Option.some ⟨g, 0, none⟩) vs) (v : Value) : OwnC base t (w.setCell ⟨g, i, none⟩ v) (Option.some ⟨g, 0, none⟩) (vs.set i v) := by
  obtain ⟨g', cur, e, hb, hh, ht⟩ := h
  cases e
  refine ⟨g, _, rfl, hb, heap_setCell_same w g i cur t v hh, ?_⟩
  apply List.ext_getElem?
  intro j
  have hj : (cur.toList.take vs.length)[j]? = vs[j]? := by rw [ht]
  rw [List.getElem?_take] at hj
  simp only [Array.toList_setIfInBounds, List.getElem?_take, List.length_set, List.getElem?_set]
  have hlen : vs.length ≤ cur.toList.length := by
    have := congrArg List.length ht
    simp only [List.length_take] at this
    omega
  by_cases hjl : j < vs.length
  · rw [if_pos hjl] at hj ⊢
    by_cases hij : i = j
    · subst hij
      have : i < cur.toList.length := by omega
      rw [if_pos rfl, if_pos rfl, if_pos this, if_pos hjl]
    · rw [if_neg hij, if_neg hij]
      exact hj
  · rw [if_neg hjl] at hj ⊢
    by_cases hij : i = j
    · subst hij
      rw [if_pos rfl, if_neg hjl]
    · rw [if_neg hij]
      exact hj
theorem Own.bs {base : Nat} {w : World} {a : Option Addr} {l : List Bool} (h : Own base w a l) : Bs w a l := by
  obtain ⟨g, e⟩ := OwnC.some h
  subst e
  obtain ⟨_, h2, h3, _⟩ := OwnC.at h
  refine .inr ⟨g, 0, rfl, h2, fun j hj => ?_⟩
  rw [Nat.zero_add, h3 j (by simpa using hj)]
  simp [hj]
theorem Own.set {base : Nat} {w : World} {g i : Nat} {l : List Bool} (h : Own base w (Option.some ⟨g, 0, none⟩) l) (v : Bool) : Own base (w.setCell ⟨g, i, none⟩ (.bool v)) (Option.some ⟨g, 0, none⟩) (l.set i v) := by
  have := OwnC.set (i := i) h (.bool v)
  unfold Own
  rwa [List.map_set]
theorem Own.at {base : Nat} {w : World} {g : Nat} {l : List Bool} (h : Own base w (Option.some ⟨g, 0, none⟩) l) : base ≤ g ∧ g < w.heap.size ∧ (∀ j, j < l.length → w.cell? ⟨g, j, none⟩ = Option.some (.bool (l[j]?.getD false))) ∧ ∀ j, w.frozen? ⟨g, j, none⟩ = false := by
  obtain ⟨h1, h2, h3, h4⟩ := OwnC.at h
  refine ⟨h1, h2, fun j hj => ?_, h4⟩
  rw [h3 j (by simpa using hj)]
  simp [hj]
theorem Own.grows {base : Nat} {w w' : World} {a : Option Addr} {l : List Bool} (h : Own base w a l) (g : Grows w w') : Own base w' a l := OwnC.grows h g
theorem ownC_of_row {base : Nat} {t : TypeId} {w : World} {v : Value} {n : Nat} {xs : List Value} (h : w.ownsRow base t 1 v n xs) (hn : 0 < n) : ∃ g cap, v = .slice (some ⟨g, 0, none⟩) n cap ∧ n ≤ cap ∧ OwnC base t w (some ⟨g, 0, none⟩) xs := by
  obtain ⟨hl, h | ⟨g, cap, cur, rfl, hb, hh, hc, hm, hs, ht⟩⟩ := h
  · omega
  · refine ⟨g, cap, rfl, hc, g, cur, rfl, hb, hh, ?_⟩
    rw [hl]
    exact ht
theorem Grows.of_grownBy {w w' : World} {row : Option Nat} (h : w.grownBy w' row) (hr : ∀ k, row = some k → w.heap.size ≤ k) : Grows w w' := by
  refine Grows.of_below ⟨h.os, h.tape, h.output, h.size, fun k hk => h.block k hk ?_⟩
  intro e
  have := hr k e.symm
  omega
theorem made_bools (n : Nat) : (madeCells #[Value.bool false] (n * 1)).toList = (List.replicate n false).map Value.bool := by
  apply List.ext_getElem
  · simp [madeCells]
  · intro i h1 h2
    simp [madeCells, Nat.mod_one]
end Go.Proofs.Ytkkhcpddpnhemaa
