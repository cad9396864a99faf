/-
  What the seat's rows share. Layouts among the arguments of a law, opened.
-/
import Derived.Test.YtbobpgegkmcapaaRows
import Derived.Test.YtbobpgegkmcapaaE1
namespace Go.Proofs.Ytbobpgegkmcapaa
open Go.ChangeShapes Go.WideShapes Go.ChangeAt Go.RowKit
theorem own : ownKnob Try.prog.godebug = none := by kernel_rfl
theorem laidOut : laidOutB Try.prog = true := by kernel_rfl
end Go.Proofs.Ytbobpgegkmcapaa

namespace Go.Proofs.Ytbobpgegkmcapaa
open Go.ChangeShapes Go.WideShapes Go.ChangeAt Go.RowKit Go.Deep Go.Joins
section
variable {H : Type} {enc : TypeId × Value → H} {w : World} {sp : Nat → Bool} {held : Bool}
theorem ints_open {P : Program} {t e : TypeId} {fuel : Nat} {cs : List Value} {x : DataW H × List MemPlace} (ht : P.underlying t = some (.slice e)) (hu : P.underlying e = some (.int .i64)) (hC : P.cellsOf e = 1) (h : DataW.trod enc P w 0 sp held fuel t cs = some x) :
    ∃ (v : Value) (l : List Int), cs = [v] ∧ IntsAt (fun _ => True) w v l := by
  rcases open_slice1 ht hC h with ⟨rfl, -⟩ | ⟨a, len, cap, m, n, V, D, Pl, rfl, hb, hl, hm, hmm, -, hx⟩
  · exact ⟨_, [], rfl, IntsAt.nil _ _ _ _⟩
  · have hlm : len ≤ m := by rw [hmm]; split <;> omega
    have each : ∀ i, i < m → ∃ q : Int, w.cell? (a.add i) = some (.int .i64 q) := by
      intro i hi
      obtain ⟨g1, g2⟩ := hx i hi
      obtain ⟨z0, e0, -, r0⟩ := DataW.trod_int hu g2
      simp only [List.cons.injEq, and_true] at e0
      rw [e0] at g1
      exact ⟨z0, g1⟩
    obtain ⟨q, hq⟩ := choose_lt each
    refine ⟨_, (List.range len).map q, rfl, some a, cap, by simp, by simpa using hl, by simp only [List.length_map, List.length_range]; simp only [maxLen] at hm; omega, fun hne => ?_⟩
    have h0 : 0 < len := by
      rcases Nat.eq_zero_or_pos len with e | e
      · subst e; exact absurd rfl hne
      · exact e
    have hz := hq 0 (by omega)
    have hsp : a.spot = none := by simpa [Addr.add] using World.cell?_spot hz
    have hlt : a.block < w.heap.size := by simpa [Addr.add] using cell_lt hz
    obtain ⟨bl, off, spot⟩ := a
    subst hsp
    refine ⟨bl, off, rfl, hlt, trivial, fun i y hi => ?_⟩
    rw [List.getElem?_map] at hi
    have hil : i < len := by
      rcases Nat.lt_or_ge i len with h' | h'
      · exact h'
      · rw [List.getElem?_eq_none (by simpa using h')] at hi
        cases hi
    rw [List.getElem?_range hil] at hi
    obtain rfl : q i = y := by simpa using hi
    have h2 := hq i (by omega)
    rw [add_plain] at h2
    exact h2
set_option maxRecDepth 100000 in
theorem lay_open : ∀ (fuel : Nat) (cs : List Value) (x : DataW H × List MemPlace), DataW.trod enc Try.prog w 0 sp held fuel 25 cs = some x → ∃ (L : Lay) (vk vw : Value), cs = [.int .i64 L.kind, .int .i64 L.pane, vk, vw] ∧ LayAt (fun _ => True) w L vk vw := by
  intro fuel
  induction fuel using Nat.strongRecOn with | ind fuel ih => ?_
  intro cs x h
  obtain ⟨xs, n, rfl, -, hl, hlen, hf⟩ := DataW.trod_struct Try.underlying25 h
  have c3 : Try.prog.cellsOf 3 = 1 := by kernel_rfl
  have c22 : Try.prog.cellsOf 22 = 1 := by kernel_rfl
  have c23 : Try.prog.cellsOf 23 = 1 := by kernel_rfl
  have c25 : Try.prog.cellsOf 25 = 4 := by kernel_rfl
  have t0 : DataW.trod enc Try.prog w 0 sp held n 3 ((cs.drop 0).take (Try.prog.cellsOf 3)) = xs[0]? := hf 0 _ rfl
  have t1 : DataW.trod enc Try.prog w 0 sp held n 3 ((cs.drop 1).take (Try.prog.cellsOf 3)) = xs[1]? := hf 1 _ rfl
  have t2 : DataW.trod enc Try.prog w 0 sp held n 22 ((cs.drop 2).take (Try.prog.cellsOf 22)) = xs[2]? := hf 2 _ rfl
  have t3 : DataW.trod enc Try.prog w 0 sp held n 23 ((cs.drop 3).take (Try.prog.cellsOf 23)) = xs[3]? := hf 3 _ rfl
  rw [c25] at hl
  match cs, hl with
  | [v0, v1, v2, v3], _ =>
    match xs, hlen with
    | [x0, x1, x2, x3], _ =>
      rw [c3] at t0 t1
      rw [c22] at t2
      rw [c23] at t3
      simp only [List.drop_succ_cons, List.drop_zero, List.take_succ_cons, List.take_zero, List.getElem?_cons_zero, List.getElem?_cons_succ] at t0 t1 t2 t3
      obtain ⟨z0, e0, -, -⟩ := DataW.trod_int Try.underlying3 t0
      obtain ⟨z1, e1, -, -⟩ := DataW.trod_int Try.underlying3 t1
      simp only [List.cons.injEq, and_true] at e0 e1
      subst e0 e1
      obtain ⟨vw, ws, ew, hw⟩ := ints_open Try.underlying23 Try.underlying3 c3 t3
      simp only [List.cons.injEq, and_true] at ew
      subst ew
      rcases DataW.trod_slice Try.underlying22 t2 with ⟨e, -⟩ | ⟨a, len, cap, elems, rest, n', rfl, e, -, hb, hlc, hcm, helen, hel, -, -⟩
      · simp only [List.cons.injEq, and_true] at e
        subst e
        exact ⟨.mk z0 z1 [] ws, _, _, rfl, LayAt_mk.2 ⟨hw, KidsAt.nil _ _ _ _⟩⟩
      · simp only [List.cons.injEq, and_true] at e
        subst e
        rw [c25] at hel
        have each : ∀ i, i < len → ∃ q : Lay × Value × Value, w.cell? (a.add (i * 4)) = some (.int .i64 q.1.kind) ∧ w.cell? (a.add (i * 4 + 1)) = some (.int .i64 q.1.pane) ∧ w.cell? (a.add (i * 4 + 2)) = some q.2.1 ∧ w.cell? (a.add (i * 4 + 3)) = some q.2.2 ∧ LayAt (fun _ => True) w q.1 q.2.1 q.2.2 := by
          intro i hi
          have h1 := hel i hi
          rw [List.getElem?_eq_getElem (by omega)] at h1
          obtain ⟨cs', g1, g2⟩ := Option.bind_eq_some_iff.1 h1
          obtain ⟨L, vk, vw', rfl, hL⟩ := ih n' (by omega) cs' _ g2
          obtain ⟨_, _, hcell⟩ := World.cells?_some g1
          have d0 := hcell 0 (by omega)
          have d1 := hcell 1 (by omega)
          have d2 := hcell 2 (by omega)
          have d3 := hcell 3 (by omega)
          rw [add_add] at d0 d1 d2 d3
          exact ⟨(L, vk, vw'), by simpa using d0, by simpa using d1, by simpa using d2, by simpa using d3, hL⟩
        have : Inhabited (Lay × Value × Value) := ⟨(.mk 0 0 [] [], undef, undef)⟩
        obtain ⟨q, hq⟩ := choose_lt each
        refine ⟨.mk z0 z1 ((List.range len).map fun i => (q i).1) ws, _, _, rfl, LayAt_mk.2 ⟨hw, fun i => (q i).2, some a, cap, by simp, by simpa using hlc, by simp only [List.length_map, List.length_range]; simp only [maxLen] at hcm; omega, fun hne => ?_, fun i y hi => ?_⟩⟩
        · have h0 : 0 < len := by
            rcases Nat.eq_zero_or_pos len with e | e
            · subst e; exact absurd rfl hne
            · exact e
          have hz := (hq 0 h0).1
          have hsp : a.spot = none := by simpa [Addr.add] using World.cell?_spot hz
          have hlt : a.block < w.heap.size := by simpa [Addr.add] using cell_lt hz
          obtain ⟨bl, off, spot⟩ := a
          subst hsp
          refine ⟨bl, off, rfl, hlt, trivial, fun i y hi => ?_⟩
          rw [List.getElem?_map] at hi
          have hil : i < len := by
            rcases Nat.lt_or_ge i len with h' | h'
            · exact h'
            · rw [List.getElem?_eq_none (by simpa using h')] at hi
              cases hi
          rw [List.getElem?_range hil] at hi
          obtain rfl : (q i).1 = y := by simpa using hi
          obtain ⟨k0, k1, k2, k3, -⟩ := hq i hil
          simp only [add_plain, ← Nat.add_assoc] at k0 k1 k2 k3
          exact ⟨k0, k1, k2, k3⟩
        · rw [List.getElem?_map] at hi
          have hil : i < len := by
            rcases Nat.lt_or_ge i len with h' | h'
            · exact h'
            · rw [List.getElem?_eq_none (by simpa using h')] at hi
              cases hi
          rw [List.getElem?_range hil] at hi
          obtain rfl : (q i).1 = y := by simpa using hi
          exact (hq i hil).2.2.2.2

set_option maxRecDepth 100000 in
theorem arg_lay {r : Reach} {b : Nat} {v : Value} {d : DataW H} {p : List MemPlace} (hv : Value.okWide Try.prog w r b 25 v) (h : DataW.Trod enc Try.prog w 0 sp held 25 v d p) : ∃ (L : Lay) (vk vw : Value), v = .agg #[.int .i64 L.kind, .int .i64 L.pane, vk, vw] ∧ LayAt (fun _ => True) w L vk vw := by
  obtain ⟨fuel, h⟩ := h
  obtain ⟨cs, rfl, hsz, -⟩ := arg_struct Try.underlying25 hv
  obtain ⟨L, vk, vw, e, hL⟩ := lay_open fuel _ _ h
  refine ⟨L, vk, vw, ?_, hL⟩
  congr 1
  exact Array.toList_inj.1 (by simpa [Value.cells] using e)
end
end Go.Proofs.Ytbobpgegkmcapaa

