/-
  A slice of drafts, opened. 
-/
import Derived.Test.YtafokiobbceibaaRows
import Derived.Test.YtafokiobbceibaaFrame
import Derived.Test.YtafokiobbceibaaBase
import Derived.Deep.Slices
import Derived.Deep.Fields
import Derived.Lib.SmallJoins
import Derived.OpenShut
import Derived.Laws.IdiomArrays
namespace Go.Proofs.Ytafokiobbceibaa
open Go.ChangeShapes Go.WideShapes Go.ChangeAt Go.RowKit Go.Deep Go.Joins
structure Drf where
  dA : Int
  dU : Int
  dW : Int
  dM : Int
  d0 : Int
  d1 : Int
  d2 : Int
  d3 : Int
def Drf.Ok (d : Drf) : Prop := (0 ≤ d.dA ∧ d.dA < 256) ∧ (0 ≤ d.dU ∧ d.dU < 256) ∧ (0 ≤ d.dW ∧ d.dW < 256) ∧ (0 ≤ d.dM ∧ d.dM < 256) ∧ (0 ≤ d.d0 ∧ d.d0 < 4294967296) ∧ (0 ≤ d.d1 ∧ d.d1 < 4294967296) ∧ (0 ≤ d.d2 ∧ d.d2 < 4294967296) ∧ (0 ≤ d.d3 ∧ d.d3 < 4294967296)
/-- The draft's cells. -/
def DrfAt (w : World) (bl off : Nat) (d : Drf) : Prop := w.cell? ⟨bl, off, none⟩ = some (.int .u8 d.dA) ∧ w.cell? ⟨bl, off + 1, none⟩ = some (.int .u8 d.dU) ∧ w.cell? ⟨bl, off + 2, none⟩ = some (.int .u8 d.dW) ∧ w.cell? ⟨bl, off + 3, none⟩ = some (.int .u8 d.dM) ∧ w.cell? ⟨bl, off + 4, none⟩ = some (.int .u32 d.d0) ∧ w.cell? ⟨bl, off + 5, none⟩ = some (.int .u32 d.d1) ∧ w.cell? ⟨bl, off + 6, none⟩ = some (.int .u32 d.d2) ∧ w.cell? ⟨bl, off + 7, none⟩ = some (.int .u32 d.d3)
theorem DrfAt.lt {w : World} {bl off : Nat} {d : Drf} (h : DrfAt w bl off d) : bl < w.heap.size := by
  have h := h.1
  unfold World.cell? at h
  rcases Nat.lt_or_ge bl w.heap.size with h' | h'
  · exact h'
  · rw [Array.getElem?_eq_none h'] at h
    cases h
theorem DrfAt.grows {w w' : World} {bl off : Nat} {d : Drf} (h : DrfAt w bl off d) (g : Grows w w') : DrfAt w' bl off d := by
  have hb := h.lt
  obtain ⟨x, y, rfl⟩ := g
  obtain ⟨h0, h1, h2, h3, h4, h5, h6, h7⟩ := h
  refine ⟨?_, ?_, ?_, ?_, ?_, ?_, ?_, ?_⟩ <;> rw [ext_cell _ _ _ _ _ hb] <;> assumption
section
variable {H : Type} {enc : TypeId × Value → H} {w : World}
theorem range_wf {k : IntKind} {n : Int} (h : (Lit.int k n).wf = true) : k.min ≤ n ∧ n ≤ k.max := by
  simpa [Lit.wf] using h
instance : Inhabited Drf := ⟨⟨0, 0, 0, 0, 0, 0, 0, 0⟩⟩
theorem open_drafts {v : Value} {d : DataW H} {p : List MemPlace} {sp : Nat → Bool} {held : Bool} {r : Reach} {b : Nat} (hv : Value.okWide Try.prog w r b 42 v) (h : DataW.Trod enc Try.prog w 0 sp held 42 v d p) :
    (∃ oa cap, v = .slice oa 0 cap) ∨ ∃ (bl off len cap : Nat) (F : Nat → Drf), v = .slice (some ⟨bl, off, none⟩) len cap ∧ 0 < len ∧ len ≤ cap ∧ len ≤ 9223372036854775807 ∧ bl < w.heap.size ∧ (∀ i, i < len → (F i).Ok) ∧ ∀ i, i < len → DrfAt w bl (off + i * 8) (F i) := by
  obtain ⟨fuel, h⟩ := h
  have hsl : ∃ oa l c, v = .slice oa l c := by
    simp only [Value.okWide, Try.underlying42, Cell.okWide] at hv
    cases v <;> simp_all [Cell.ok]
  obtain ⟨oa, len, cap, rfl⟩ := hsl
  rcases open_slice Try.underlying42 h with ⟨h1, -⟩ | ⟨a, len2, cap2, m, n, D, Pl, h1, hb, hl, hm, hmm, -, hx⟩
  · simp [Value.cells] at h1
    obtain ⟨rfl, rfl, rfl⟩ := h1
    exact Or.inl ⟨none, 0, rfl⟩
  simp [Value.cells] at h1
  obtain ⟨rfl, rfl, rfl⟩ := h1
  have hlm : len ≤ m := by rw [hmm]; split <;> omega
  by_cases h0 : len = 0
  · subst h0
    exact Or.inl ⟨_, _, rfl⟩
  have hC : Try.prog.cellsOf 31 = 8 := by kernel_rfl
  have hC5 : Try.prog.cellsOf 5 = 1 := by kernel_rfl
  have hC28 : Try.prog.cellsOf 28 = 1 := by kernel_rfl
  have hC32 : Try.prog.cellsOf 29 = 4 := by kernel_rfl
  have each : ∀ i, i < m → ∃ q : Drf, q.Ok ∧ ∀ (j : Nat) (x : Value), [Value.int .u8 q.dA, Value.int .u8 q.dU, Value.int .u8 q.dW, Value.int .u8 q.dM, Value.int .u32 q.d0, Value.int .u32 q.d1, Value.int .u32 q.d2, Value.int .u32 q.d3][j]? = some x → w.cell? (a.add (i * 8 + j)) = some x := by
    intro i hi
    obtain ⟨cs', g1, g2⟩ := hx i hi
    rw [hC] at g1
    obtain ⟨_, hlen, hcell⟩ := World.cells?_some g1
    obtain ⟨ys, k, -, -, -, hyl, hf⟩ := DataW.trod_struct Try.underlying31 g2
    replace hyl : ys.length = 5 := hyl
    match cs', hlen with
    | [v0, v1, v2, v3, v4, v5, v6, v7], _ =>
      have t0 : DataW.trod enc Try.prog w 0 sp held k 5 (([v0, v1, v2, v3, v4, v5, v6, v7].drop 0).take (Try.prog.cellsOf 5)) = ys[0]? := hf 0 _ rfl
      have t1 : DataW.trod enc Try.prog w 0 sp held k 5 (([v0, v1, v2, v3, v4, v5, v6, v7].drop 1).take (Try.prog.cellsOf 5)) = ys[1]? := hf 1 _ rfl
      have t2 : DataW.trod enc Try.prog w 0 sp held k 5 (([v0, v1, v2, v3, v4, v5, v6, v7].drop 2).take (Try.prog.cellsOf 5)) = ys[2]? := hf 2 _ rfl
      have t3 : DataW.trod enc Try.prog w 0 sp held k 5 (([v0, v1, v2, v3, v4, v5, v6, v7].drop 3).take (Try.prog.cellsOf 5)) = ys[3]? := hf 3 _ rfl
      have t4 : DataW.trod enc Try.prog w 0 sp held k 29 (([v0, v1, v2, v3, v4, v5, v6, v7].drop 4).take (Try.prog.cellsOf 29)) = ys[4]? := hf 4 _ rfl
      have y : ∀ j, j < 5 → ∃ z, ys[j]? = some z := fun j hj => ⟨ys[j]'(by omega), List.getElem?_eq_getElem (by omega)⟩
      obtain ⟨z0, hz0⟩ := y 0 (by omega)
      obtain ⟨z1, hz1⟩ := y 1 (by omega)
      obtain ⟨z2, hz2⟩ := y 2 (by omega)
      obtain ⟨z3, hz3⟩ := y 3 (by omega)
      obtain ⟨z4, hz4⟩ := y 4 (by omega)
      rw [hz0] at t0
      rw [hz1] at t1
      rw [hz2] at t2
      rw [hz3] at t3
      rw [hz4] at t4
      simp only [hC5, hC32, List.drop, List.take] at t0 t1 t2 t3 t4
      obtain ⟨x0, e0, -, r0⟩ := DataW.trod_int Try.underlying5 t0
      obtain ⟨x1, e1, -, r1⟩ := DataW.trod_int Try.underlying5 t1
      obtain ⟨x2, e2, -, r2⟩ := DataW.trod_int Try.underlying5 t2
      obtain ⟨x3, e3, -, r3⟩ := DataW.trod_int Try.underlying5 t3
      obtain ⟨_, _, _, _, _, -, s4, s5, s6, s7⟩ := trod_array4 Try.underlying29 hC28 t4
      obtain ⟨x4, e4, -, r4⟩ := DataW.trod_int Try.underlying28 s4
      obtain ⟨x5, e5, -, r5⟩ := DataW.trod_int Try.underlying28 s5
      obtain ⟨x6, e6, -, r6⟩ := DataW.trod_int Try.underlying28 s6
      obtain ⟨x7, e7, -, r7⟩ := DataW.trod_int Try.underlying28 s7
      simp only [List.cons.injEq, and_true] at e0 e1 e2 e3 e4 e5 e6 e7
      subst e0; subst e1; subst e2; subst e3; subst e4; subst e5; subst e6; subst e7
      refine ⟨⟨x0, x1, x2, x3, x4, x5, x6, x7⟩, ⟨range_u8 (range_wf r0), range_u8 (range_wf r1), range_u8 (range_wf r2), range_u8 (range_wf r3), range_u32 (range_wf r4), range_u32 (range_wf r5), range_u32 (range_wf r6), range_u32 (range_wf r7)⟩, fun j x hj => ?_⟩
      have hj8 : j < 8 := by
        rcases Nat.lt_or_ge j 8 with h' | h'
        · exact h'
        · rw [List.getElem?_eq_none (by simpa using h')] at hj
          cases hj
      have := hcell j hj8
      rw [add_add] at this
      exact this.trans hj
  obtain ⟨q, hq⟩ := choose_lt each
  have hz := (hq 0 (by omega)).2 0 _ rfl
  have hsp : a.spot = none := by simpa [Addr.add] using World.cell?_spot hz
  obtain ⟨bl, off, spot⟩ := a
  subst hsp
  have hat : ∀ i, i < len → DrfAt w bl (off + i * 8) (q i) := fun i hi => by
    have hh := (hq i (by omega)).2
    simp only [add_plain, ← Nat.add_assoc] at hh
    exact ⟨hh 0 _ rfl, hh 1 _ rfl, hh 2 _ rfl, hh 3 _ rfl, hh 4 _ rfl, hh 5 _ rfl, hh 6 _ rfl, hh 7 _ rfl⟩
  exact Or.inr ⟨bl, off, len, cap, q, rfl, by omega, hl, by simp only [maxLen] at hm; omega, (hat 0 (by omega)).lt, fun i hi => (hq i (by omega)).1, hat⟩
end
end Go.Proofs.Ytafokiobbceibaa
