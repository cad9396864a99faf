/-
  A slice of bools and a slice of small numbers among the arguments, opened. No program in sight.
-/
import Derived.Test.YtkkhcpddpnhemaaFrame
import Derived.Test.YtkkhcpddpnhemaaW13
import Derived.Deep.Slices
namespace Go.Proofs.Ytkkhcpddpnhemaa
open Go.ChangeShapes Go.WideShapes Go.ChangeAt Go.RowKit Go.Deep
section
variable {H : Type} {enc : TypeId × Value → H} {P : Program} {w : World}
theorem cell_lt {w : World} {a : Addr} {v : Value} (h : w.cell? a = some v) : a.block < w.heap.size := by
  unfold World.cell? at h
  rcases Nat.lt_or_ge a.block w.heap.size with h' | h'
  · exact h'
  · rw [Array.getElem?_eq_none h'] at h
    cases h
theorem open_one {t e : TypeId} {v : Value} {d : DataW H} {p : List MemPlace} {sp : Nat → Bool} {held : Bool} (ht : P.underlying t = some (.slice e)) (hC : P.cellsOf e = 1)
    {r : Reach} {b : Nat} (hv : Value.okWide P w r b t v) (h : DataW.Trod enc P w 0 sp held t v d p) :
    ∃ (oa : Option Addr) (len cap : Nat) (V : Nat → Value), v = .slice oa len cap ∧ len ≤ cap ∧ cap ≤ 9223372036854775807 ∧ (0 < len → ∃ bl off, oa = some ⟨bl, off, none⟩ ∧ bl < w.heap.size ∧ ∀ i, i < len → w.cell? ⟨bl, off + i, none⟩ = some (V i)) ∧ (∀ i, i < len → ∃ n D Pl, DataW.trod enc P w 0 sp held n e [V i] = some (D, Pl)) := by
  obtain ⟨fuel, h⟩ := h
  have hsl : ∃ oa l c, v = .slice oa l c := by
    simp only [Value.okWide, ht, Cell.okWide] at hv
    cases v <;> simp_all [Cell.ok]
  obtain ⟨oa, len, cap, rfl⟩ := hsl
  rcases open_slice1 ht hC h with ⟨h1, -⟩ | ⟨a, len2, cap2, m, n, V, D, Pl, h1, hb, hl, hm, hmm, -, hx⟩
  · simp [Value.cells] at h1
    obtain ⟨rfl, rfl, rfl⟩ := h1
    exact ⟨none, 0, 0, fun _ => undef, rfl, by omega, by omega, fun h => by omega, fun i hi => by omega⟩
  simp [Value.cells] at h1
  obtain ⟨rfl, rfl, rfl⟩ := h1
  have hlm : len ≤ m := by rw [hmm]; split <;> omega
  refine ⟨some a, len, cap, V, rfl, hl, by simpa [maxLen] using hm, fun h0 => ?_, fun i hi => ⟨n, D i, Pl i, (hx i (by omega)).2⟩⟩
  have hz := (hx 0 (by omega)).1
  have hsp : a.spot = none := by simpa [Addr.add] using World.cell?_spot hz
  have hlt : a.block < w.heap.size := by simpa [Addr.add] using cell_lt hz
  obtain ⟨bl, off, spot⟩ := a
  subst hsp
  refine ⟨bl, off, rfl, hlt, fun i hi => ?_⟩
  have := (hx i (by omega)).1
  rwa [show (⟨bl, off, none⟩ : Addr).add i = ⟨bl, off + i, none⟩ from by unfold Addr.add; split <;> simp_all] at this
theorem open_bs {t e : TypeId} {v : Value} {d : DataW H} {p : List MemPlace} {sp : Nat → Bool} {held : Bool} (ht : P.underlying t = some (.slice e)) (he : P.underlying e = some .bool) (hC : P.cellsOf e = 1)
    {r : Reach} {b : Nat} (hv : Value.okWide P w r b t v) (h : DataW.Trod enc P w 0 sp held t v d p) : ∃ (oa : Option Addr) (l : List Bool) (cap : Nat), v = .slice oa l.length cap ∧ l.length ≤ cap ∧ cap ≤ 9223372036854775807 ∧ Bs w oa l := by
  obtain ⟨oa, len, cap, V, rfl, hl, hc, hcell, ht2⟩ := open_one ht hC hv h
  obtain ⟨B, hB⟩ := choose_lt (α := Bool) (p := fun i b => V i = .bool b) (fun i (hi : i < len) => by
    obtain ⟨n, D, Pl, h1⟩ := ht2 i hi
    obtain ⟨b, h2, -⟩ := DataW.trod_bool he h1
    exact ⟨b, by simpa using h2⟩)
  refine ⟨oa, (List.range len).map B, cap, by simp, by simpa using hl, hc, ?_⟩
  by_cases h0 : len = 0
  · exact .inl (by simp [h0])
  · obtain ⟨bl, off, e1, e2, e3⟩ := hcell (by omega)
    refine .inr ⟨bl, off, e1, e2, fun j hj => ?_⟩
    have hj' : j < len := by simpa using hj
    rw [e3 j hj', hB j hj']
    simp [hj']
theorem open_us {t e : TypeId} {v : Value} {d : DataW H} {p : List MemPlace} {sp : Nat → Bool} {held : Bool} (ht : P.underlying t = some (.slice e)) (he : P.underlying e = some (.int .u8)) (hC : P.cellsOf e = 1)
    {r : Reach} {b : Nat} (hv : Value.okWide P w r b t v) (h : DataW.Trod enc P w 0 sp held t v d p) : ∃ (oa : Option Addr) (l : List Int) (cap : Nat), v = .slice oa l.length cap ∧ l.length ≤ cap ∧ cap ≤ 9223372036854775807 ∧ Us w oa l := by
  obtain ⟨oa, len, cap, V, rfl, hl, hc, hcell, ht2⟩ := open_one ht hC hv h
  obtain ⟨B, hB⟩ := choose_lt (α := Int) (p := fun i b => V i = .int .u8 b ∧ 0 ≤ b ∧ b < 256) (fun i (hi : i < len) => by
    obtain ⟨n, D, Pl, h1⟩ := ht2 i hi
    obtain ⟨b, h2, -, h3⟩ := DataW.trod_int he h1
    have h4 : IntKind.u8.min ≤ b ∧ b ≤ IntKind.u8.max := by simpa [Lit.wf] using h3
    have := range_u8 h4
    exact ⟨b, by simpa using h2, this.1, this.2⟩)
  refine ⟨oa, (List.range len).map B, cap, by simp, by simpa using hl, hc, ?_, ?_⟩
  · intro x hx
    simp only [List.mem_map, List.mem_range] at hx
    obtain ⟨i, hi, rfl⟩ := hx
    exact (hB i hi).2
  by_cases h0 : len = 0
  · exact .inl (by simp [h0])
  · obtain ⟨bl, off, e1, e2, e3⟩ := hcell (by omega)
    refine .inr ⟨bl, off, e1, e2, fun j hj => ?_⟩
    have hj' : j < len := by simpa using hj
    rw [e3 j hj', (hB j hj').1]
    simp [hj']
end
end Go.Proofs.Ytkkhcpddpnhemaa
