/-
  A slice of structs of four whole numbers, opened. No program in sight.
-/
import Derived.Test.YtegpdjiacehkfaaDoorFrame
import Derived.Deep.Slices
import Derived.Deep.Fields
import Derived.Lib.SmallJoins
namespace Go.Proofs.YtegpdjiacehkfaaDoor
open Go.ChangeShapes Go.WideShapes Go.ChangeAt Go.RowKit Go.Deep Go.Joins
section
variable {H : Type} {enc : TypeId × Value → H} {P : Program} {w : World}
theorem cell_lt {w : World} {a : Addr} {v : Value} (h : w.cell? a = some v) : a.block < w.heap.size := by
  unfold World.cell? at h
  rcases Nat.lt_or_ge a.block w.heap.size with h' | h'
  · exact h'
  · rw [Array.getElem?_eq_none h'] at h
    cases h
theorem range_wf {k : IntKind} {n : Int} (h : (Lit.int k n).wf = true) : k.min ≤ n ∧ n ≤ k.max := by
  simpa [Lit.wf] using h
instance : Inhabited (Int × Int × Int × Int) := ⟨(0, 0, 0, 0)⟩
theorem open_step4 {t e : TypeId} {f0 f1 f2 f3 : Field} {k0 k1 k2 k3 : IntKind} {v : Value} {d : DataW H} {p : List MemPlace} {sp : Nat → Bool} {held : Bool} (ht : P.underlying t = some (.slice e)) (he : P.underlying e = some (.struct #[f0, f1, f2, f3])) (hone : oneCellFields P #[f0, f1, f2, f3] = true) (hC : P.cellsOf e = 4)
    (u0 : P.underlying f0.type = some (.int k0)) (u1 : P.underlying f1.type = some (.int k1)) (u2 : P.underlying f2.type = some (.int k2)) (u3 : P.underlying f3.type = some (.int k3)) {r : Reach} {b : Nat} (hv : Value.okWide P w r b t v) (h : DataW.Trod enc P w 0 sp held t v d p) :
    (∃ oa cap, v = .slice oa 0 cap) ∨ ∃ (bl off len cap : Nat) (F0 F1 F2 F3 : Nat → Int), v = .slice (some ⟨bl, off, none⟩) len cap ∧ 0 < len ∧ len ≤ 9223372036854775807 ∧ bl < w.heap.size ∧
      (∀ i, i < len → k0.min ≤ F0 i ∧ F0 i ≤ k0.max) ∧ (∀ i, i < len → k1.min ≤ F1 i ∧ F1 i ≤ k1.max) ∧ (∀ i, i < len → k2.min ≤ F2 i ∧ F2 i ≤ k2.max) ∧ (∀ i, i < len → k3.min ≤ F3 i ∧ F3 i ≤ k3.max) ∧
      (∀ i, i < len → w.cell? ⟨bl, off + i * 4, none⟩ = some (.int k0 (F0 i))) ∧ (∀ i, i < len → w.cell? ⟨bl, off + i * 4 + 1, none⟩ = some (.int k1 (F1 i))) ∧ (∀ i, i < len → w.cell? ⟨bl, off + i * 4 + 2, none⟩ = some (.int k2 (F2 i))) ∧ (∀ i, i < len → w.cell? ⟨bl, off + i * 4 + 3, none⟩ = some (.int k3 (F3 i))) := by
  obtain ⟨fuel, h⟩ := h
  have hf := hone_of hone
  have o0 := hf 0 f0 rfl
  have o1 := hf 1 f1 rfl
  have o2 := hf 2 f2 rfl
  have o3 := hf 3 f3 rfl
  have hsl : ∃ oa l c, v = .slice oa l c := by
    simp only [Value.okWide, ht, Cell.okWide] at hv
    cases v <;> simp_all [Cell.ok]
  obtain ⟨oa, len, cap, rfl⟩ := hsl
  rcases open_slice ht h with ⟨h1, -⟩ | ⟨a, len2, cap2, m, n, D, Pl, h1, hb, hl, hm, hmm, -, hx⟩
  · simp [Value.cells] at h1
    obtain ⟨rfl, rfl, rfl⟩ := h1
    exact Or.inl ⟨none, 0, rfl⟩
  simp [Value.cells] at h1
  obtain ⟨rfl, rfl, rfl⟩ := h1
  have hlm : len ≤ m := by rw [hmm]; split <;> omega
  by_cases h0 : len = 0
  · subst h0
    exact Or.inl ⟨_, _, rfl⟩
  have each : ∀ i, i < m → ∃ q : Int × Int × Int × Int, (k0.min ≤ q.1 ∧ q.1 ≤ k0.max) ∧ (k1.min ≤ q.2.1 ∧ q.2.1 ≤ k1.max) ∧ (k2.min ≤ q.2.2.1 ∧ q.2.2.1 ≤ k2.max) ∧ (k3.min ≤ q.2.2.2 ∧ q.2.2.2 ≤ k3.max) ∧
      w.cell? (a.add (i * 4)) = some (.int k0 q.1) ∧ w.cell? (a.add (i * 4 + 1)) = some (.int k1 q.2.1) ∧ w.cell? (a.add (i * 4 + 2)) = some (.int k2 q.2.2.1) ∧ w.cell? (a.add (i * 4 + 3)) = some (.int k3 q.2.2.2) := by
    intro i hi
    obtain ⟨cs', g1, g2⟩ := hx i hi
    rw [hC] at g1
    obtain ⟨_, hlen, hcell⟩ := World.cells?_some g1
    obtain ⟨y0, y1, y2, y3, k, -, -, t0, t1, t2, t3⟩ := trod_struct4 he g2
    match cs', hlen with
    | [v0, v1, v2, v3], _ =>
      rw [o0.1, o0.2] at t0
      rw [o1.1, o1.2] at t1
      rw [o2.1, o2.2] at t2
      rw [o3.1, o3.2] at t3
      simp only [List.drop, List.take] at t0 t1 t2 t3
      obtain ⟨z0, e0, -, r0⟩ := DataW.trod_int u0 t0
      obtain ⟨z1, e1, -, r1⟩ := DataW.trod_int u1 t1
      obtain ⟨z2, e2, -, r2⟩ := DataW.trod_int u2 t2
      obtain ⟨z3, e3, -, r3⟩ := DataW.trod_int u3 t3
      simp only [List.cons.injEq, and_true] at e0 e1 e2 e3
      subst e0; subst e1; subst e2; subst e3
      have c0 := hcell 0 (by omega)
      have c1 := hcell 1 (by omega)
      have c2 := hcell 2 (by omega)
      have c3 := hcell 3 (by omega)
      rw [add_add] at c0 c1 c2 c3
      exact ⟨(z0, z1, z2, z3), range_wf r0, range_wf r1, range_wf r2, range_wf r3, by simpa using c0, by simpa using c1, by simpa using c2, by simpa using c3⟩
  obtain ⟨q, hq⟩ := choose_lt each
  have hz := (hq 0 (by omega)).2.2.2.2.1
  have hsp : a.spot = none := by simpa [Addr.add] using World.cell?_spot hz
  have hlt : a.block < w.heap.size := by simpa [Addr.add] using cell_lt hz
  obtain ⟨bl, off, spot⟩ := a
  subst hsp
  refine Or.inr ⟨bl, off, len, cap, fun i => (q i).1, fun i => (q i).2.1, fun i => (q i).2.2.1, fun i => (q i).2.2.2, rfl, by omega, by simp only [maxLen] at hm; omega, hlt, ?_⟩
  refine ⟨fun i hi => (hq i (by omega)).1, fun i hi => (hq i (by omega)).2.1, fun i hi => (hq i (by omega)).2.2.1, fun i hi => (hq i (by omega)).2.2.2.1, fun i hi => ?_, fun i hi => ?_, fun i hi => ?_, fun i hi => ?_⟩
  · simpa [add_plain, Nat.add_assoc] using (hq i (by omega)).2.2.2.2.1
  · simpa [add_plain, Nat.add_assoc] using (hq i (by omega)).2.2.2.2.2.1
  · simpa [add_plain, Nat.add_assoc] using (hq i (by omega)).2.2.2.2.2.2.1
  · simpa [add_plain, Nat.add_assoc] using (hq i (by omega)).2.2.2.2.2.2.2
end
end Go.Proofs.YtegpdjiacehkfaaDoor
