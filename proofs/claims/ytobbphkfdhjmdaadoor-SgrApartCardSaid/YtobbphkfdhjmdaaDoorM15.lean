/-
  A slice of structs of four whole numbers, opened. No program in sight. The draft's pen. A slice of drafts, opened. Same of rows. Lists of drafts; SgrBack: the walk. A slice of drafts among the arguments.
-/
import Derived.Test.YtobbphkfdhjmdaaDoorM1
import Derived.Deep.Slices
import Derived.Deep.Fields
import Derived.Lib.SmallJoins
import Derived.Test.YtobbphkfdhjmdaaDoorRows
import Derived.Test.YtobbphkfdhjmdaaDoorM4
import Derived.Test.YtobbphkfdhjmdaaDoorM10
import Derived.WalkKit
import Derived.WalkSpells
import Derived.WalkLawsBesides
import Derived.Handy
import Derived.Laws.Rows
import Derived.Great.BuildSlice
import Derived.Deep.Heap
import Derived.IntWalk
import Derived.Lib.Hide
import Derived.Outline
import Derived.Deep.Light
import Derived.Deep.LoopGhost
import Derived.BigGuardPart
import Derived.BigQuiet
import Derived.Deep.QuietTactic
import Derived.Deep.RegionHeld3
import Derived.Deep.DeepCutAuto
import Derived.Laws.EntriesVeiled
import Derived.OpenShut
import Derived.Laws.IdiomArrays
import Derived.Test.YtobbphkfdhjmdaaDoorM2
import Derived.Test.YtobbphkfdhjmdaaDoorM9
import Derived.Test.YtobbphkfdhjmdaaDoorM11
import Derived.Test.YtobbphkfdhjmdaaDoorM12
import Derived.Test.YtobbphkfdhjmdaaDoorM13
import Derived.Test.YtobbphkfdhjmdaaDoorM14
import Derived.Laws.Concat
namespace Go.Proofs.YtobbphkfdhjmdaaDoor
open Go.ChangeShapes Go.WideShapes Go.ChangeAt Go.RowKit Go.Deep Go.Joins
section
variable {H : Type} {enc : TypeId × Value → H} {P : Program} {w : World}
theorem cell_lt {w : World} {a : Addr} {v : Value} (h : w.cell? a = some v) : a.block < w.heap.size := by
  unfold World.cell? at h
  rcases Nat.lt_or_ge a.block w.heap.size with h' | h'
  · exact h'
  · rw [Array.getElem?_eq_none h'] at h
    cases h
theorem range_wf {k : IntKind} {n : Int} (h : (Lit.int k n).wf = true) : k.min ≤ n ∧ n ≤ k.max := by
  simpa [Lit.wf] using h
instance : Inhabited (Int × Int × Int × Int) := ⟨(0, 0, 0, 0)⟩
theorem open_step4 {t e : TypeId} {f0 f1 f2 f3 : Field} {k0 k1 k2 k3 : IntKind} {v : Value} {d : DataW H} {p : List MemPlace} {sp : Nat → Bool} {held : Bool} (ht : P.underlying t = some (.slice e)) (he : P.underlying e = some (.struct #[f0, f1, f2, f3])) (hone : oneCellFields P #[f0, f1, f2, f3] = true) (hC : P.cellsOf e = 4)
    (u0 : P.underlying f0.type = some (.int k0)) (u1 : P.underlying f1.type = some (.int k1)) (u2 : P.underlying f2.type = some (.int k2)) (u3 : P.underlying f3.type = some (.int k3)) {r : Reach} {b : Nat} (hv : Value.okWide P w r b t v) (h : DataW.Trod enc P w 0 sp held t v d p) :
    (∃ oa cap, v = .slice oa 0 cap) ∨ ∃ (bl off len cap : Nat) (F0 F1 F2 F3 : Nat → Int), v = .slice (some ⟨bl, off, none⟩) len cap ∧ 0 < len ∧ len ≤ 9223372036854775807 ∧ bl < w.heap.size ∧
      (∀ i, i < len → k0.min ≤ F0 i ∧ F0 i ≤ k0.max) ∧ (∀ i, i < len → k1.min ≤ F1 i ∧ F1 i ≤ k1.max) ∧ (∀ i, i < len → k2.min ≤ F2 i ∧ F2 i ≤ k2.max) ∧ (∀ i, i < len → k3.min ≤ F3 i ∧ F3 i ≤ k3.max) ∧
      (∀ i, i < len → w.cell? ⟨bl, off + i * 4, none⟩ = some (.int k0 (F0 i))) ∧ (∀ i, i < len → w.cell? ⟨bl, off + i * 4 + 1, none⟩ = some (.int k1 (F1 i))) ∧ (∀ i, i < len → w.cell? ⟨bl, off + i * 4 + 2, none⟩ = some (.int k2 (F2 i))) ∧ (∀ i, i < len → w.cell? ⟨bl, off + i * 4 + 3, none⟩ = some (.int k3 (F3 i))) := by
  obtain ⟨fuel, h⟩ := h
  have hf := hone_of hone
  have o0 := hf 0 f0 rfl
  have o1 := hf 1 f1 rfl
  have o2 := hf 2 f2 rfl
  have o3 := hf 3 f3 rfl
  have hsl : ∃ oa l c, v = .slice oa l c := by
    simp only [Value.okWide, ht, Cell.okWide] at hv
    cases v <;> simp_all [Cell.ok]
  obtain ⟨oa, len, cap, rfl⟩ := hsl
  rcases open_slice ht h with ⟨h1, -⟩ | ⟨a, len2, cap2, m, n, D, Pl, h1, hb, hl, hm, hmm, -, hx⟩
  · simp [Value.cells] at h1
    obtain ⟨rfl, rfl, rfl⟩ := h1
    exact Or.inl ⟨none, 0, rfl⟩
  simp [Value.cells] at h1
  obtain ⟨rfl, rfl, rfl⟩ := h1
  have hlm : len ≤ m := by rw [hmm]; split <;> omega
  by_cases h0 : len = 0
  · subst h0
    exact Or.inl ⟨_, _, rfl⟩
  have each : ∀ i, i < m → ∃ q : Int × Int × Int × Int, (k0.min ≤ q.1 ∧ q.1 ≤ k0.max) ∧ (k1.min ≤ q.2.1 ∧ q.2.1 ≤ k1.max) ∧ (k2.min ≤ q.2.2.1 ∧ q.2.2.1 ≤ k2.max) ∧ (k3.min ≤ q.2.2.2 ∧ q.2.2.2 ≤ k3.max) ∧
      w.cell? (a.add (i * 4)) = some (.int k0 q.1) ∧ w.cell? (a.add (i * 4 + 1)) = some (.int k1 q.2.1) ∧ w.cell? (a.add (i * 4 + 2)) = some (.int k2 q.2.2.1) ∧ w.cell? (a.add (i * 4 + 3)) = some (.int k3 q.2.2.2) := by
    intro i hi
    obtain ⟨cs', g1, g2⟩ := hx i hi
    rw [hC] at g1
    obtain ⟨_, hlen, hcell⟩ := World.cells?_some g1
    obtain ⟨y0, y1, y2, y3, k, -, -, t0, t1, t2, t3⟩ := trod_struct4 he g2
    match cs', hlen with
    | [v0, v1, v2, v3], _ =>
      rw [o0.1, o0.2] at t0
      rw [o1.1, o1.2] at t1
      rw [o2.1, o2.2] at t2
      rw [o3.1, o3.2] at t3
      simp only [List.drop, List.take] at t0 t1 t2 t3
      obtain ⟨z0, e0, -, r0⟩ := DataW.trod_int u0 t0
      obtain ⟨z1, e1, -, r1⟩ := DataW.trod_int u1 t1
      obtain ⟨z2, e2, -, r2⟩ := DataW.trod_int u2 t2
      obtain ⟨z3, e3, -, r3⟩ := DataW.trod_int u3 t3
      simp only [List.cons.injEq, and_true] at e0 e1 e2 e3
      subst e0; subst e1; subst e2; subst e3
      have c0 := hcell 0 (by omega)
      have c1 := hcell 1 (by omega)
      have c2 := hcell 2 (by omega)
      have c3 := hcell 3 (by omega)
      rw [add_add] at c0 c1 c2 c3
      exact ⟨(z0, z1, z2, z3), range_wf r0, range_wf r1, range_wf r2, range_wf r3, by simpa using c0, by simpa using c1, by simpa using c2, by simpa using c3⟩
  obtain ⟨q, hq⟩ := choose_lt each
  have hz := (hq 0 (by omega)).2.2.2.2.1
  have hsp : a.spot = none := by simpa [Addr.add] using World.cell?_spot hz
  have hlt : a.block < w.heap.size := by simpa [Addr.add] using cell_lt hz
  obtain ⟨bl, off, spot⟩ := a
  subst hsp
  refine Or.inr ⟨bl, off, len, cap, fun i => (q i).1, fun i => (q i).2.1, fun i => (q i).2.2.1, fun i => (q i).2.2.2, rfl, by omega, by simp only [maxLen] at hm; omega, hlt, ?_⟩
  refine ⟨fun i hi => (hq i (by omega)).1, fun i hi => (hq i (by omega)).2.1, fun i hi => (hq i (by omega)).2.2.1, fun i hi => (hq i (by omega)).2.2.2.1, fun i hi => ?_, fun i hi => ?_, fun i hi => ?_, fun i hi => ?_⟩
  · simpa [add_plain, Nat.add_assoc] using (hq i (by omega)).2.2.2.2.1
  · simpa [add_plain, Nat.add_assoc] using (hq i (by omega)).2.2.2.2.2.1
  · simpa [add_plain, Nat.add_assoc] using (hq i (by omega)).2.2.2.2.2.2.1
  · simpa [add_plain, Nat.add_assoc] using (hq i (by omega)).2.2.2.2.2.2.2
end
end Go.Proofs.YtobbphkfdhjmdaaDoor

namespace Go.Proofs.YtobbphkfdhjmdaaDoor
open Go.RowKit

def colK (n : Int) : Int := if n % 3 = 0 then 0 else if n % 3 = 1 then 1 else 2
def colN (n : Int) : Int := if n % 3 = 0 then 0 else if n % 3 = 1 then n / 3 % 256 else n / 3 % 16777216
set_option maxHeartbeats 2000000 in
theorem col_any (n : Int) (h : 0 ≤ n ∧ n < 4294967296) (w : World) : Calls Tryd.prog 32 #[.int .u32 n] w (Ret (.agg #[.int .i64 (colK n), .int .i64 (colN n)]) w) := by
  obtain ⟨h1, h2⟩ := h
  have hq : n % 3 = 0 ∨ n % 3 = 1 ∨ n % 3 = 2 := by omega
  unfold colK colN
  rcases hq with hq | hq | hq
  all_goals
    simp only [hq, if_true, if_false, Int.reduceEq]
    go_enter Tryd.func32, Tryd.ntmps32
    go_wp2
    go_returns
    exact ⟨rfl, (by repeat' (first | (with_reducible exact Grows.refl _) | (with_reducible refine Grows.alloc ?_ _) | (with_reducible refine Grows.drew ?_) | (with_reducible refine Grows.ext ?_ _ _)))⟩
def penAg (n m ck cn : Int) : Value := .agg #[.int .i64 39, .int .i64 n, .int .i64 m, .int .i64 ck, .int .i64 cn, .string ⟨#[]⟩]

set_option maxHeartbeats 4000000 in
theorem dpen_0 (dA dU dW dM c0 c1 c2 c3 : Int) (_hA : 0 ≤ dA ∧ dA < 256) (_hU : 0 ≤ dU ∧ dU < 256) (hW : 0 ≤ dW ∧ dW < 256) (hM : 0 ≤ dM ∧ dM < 256) (_h0 : 0 ≤ c0 ∧ c0 < 4294967296) (_h1 : 0 ≤ c1 ∧ c1 < 4294967296) (_h2 : 0 ≤ c2 ∧ c2 < 4294967296) (_h3 : 0 ≤ c3 ∧ c3 < 4294967296) (hq : dW % 7 = 0) (w : World) : Calls Tryd.prog 16 #[.agg #[.int .u8 dA, .int .u8 dU, .int .u8 dW, .int .u8 dM, .int .u32 c0, .int .u32 c1, .int .u32 c2, .int .u32 c3]] w (Ret (penAg 0 0 0 0) w) := by
  unfold penAg
  obtain ⟨b1, b2⟩ := hW
  obtain ⟨b3, b4⟩ := hM
  clear _hA _hU _h0 _h1 _h2 _h3
  go_enter Tryd.func16, Tryd.ntmps16
  go_wp2_with fail
  go_returns
  exact ⟨rfl, (by repeat' (first | (with_reducible exact Grows.refl _) | (with_reducible refine Grows.alloc ?_ _) | (with_reducible refine Grows.drew ?_) | (with_reducible refine Grows.ext ?_ _ _)))⟩

set_option maxHeartbeats 4000000 in
theorem dpen_1_0 (dA dU dW dM c0 c1 c2 c3 : Int) (_hA : 0 ≤ dA ∧ dA < 256) (_hU : 0 ≤ dU ∧ dU < 256) (hW : 0 ≤ dW ∧ dW < 256) (hM : 0 ≤ dM ∧ dM < 256) (_h0 : 0 ≤ c0 ∧ c0 < 4294967296) (_h1 : 0 ≤ c1 ∧ c1 < 4294967296) (_h2 : 0 ≤ c2 ∧ c2 < 4294967296) (_h3 : 0 ≤ c3 ∧ c3 < 4294967296) (hq : dW % 7 = 1) (hm : dM % 8 = 0) (w : World) : Calls Tryd.prog 16 #[.agg #[.int .u8 dA, .int .u8 dU, .int .u8 dW, .int .u8 dM, .int .u32 c0, .int .u32 c1, .int .u32 c2, .int .u32 c3]] w (Ret (penAg 1 1 0 0) w) := by
  unfold penAg
  obtain ⟨b1, b2⟩ := hW
  obtain ⟨b3, b4⟩ := hM
  clear _hA _hU _h0 _h1 _h2 _h3
  go_enter Tryd.func16, Tryd.ntmps16
  go_wp2_with fail
  go_returns
  exact ⟨rfl, (by repeat' (first | (with_reducible exact Grows.refl _) | (with_reducible refine Grows.alloc ?_ _) | (with_reducible refine Grows.drew ?_) | (with_reducible refine Grows.ext ?_ _ _)))⟩

set_option maxHeartbeats 4000000 in
theorem dpen_2_0 (dA dU dW dM c0 c1 c2 c3 : Int) (_hA : 0 ≤ dA ∧ dA < 256) (_hU : 0 ≤ dU ∧ dU < 256) (hW : 0 ≤ dW ∧ dW < 256) (hM : 0 ≤ dM ∧ dM < 256) (_h0 : 0 ≤ c0 ∧ c0 < 4294967296) (_h1 : 0 ≤ c1 ∧ c1 < 4294967296) (_h2 : 0 ≤ c2 ∧ c2 < 4294967296) (_h3 : 0 ≤ c3 ∧ c3 < 4294967296) (hq : dW % 7 = 2) (hm : dM % 8 = 0) (w : World) : Calls Tryd.prog 16 #[.agg #[.int .u8 dA, .int .u8 dU, .int .u8 dW, .int .u8 dM, .int .u32 c0, .int .u32 c1, .int .u32 c2, .int .u32 c3]] w (Ret (penAg 2 3 0 0) w) := by
  unfold penAg
  obtain ⟨b1, b2⟩ := hW
  obtain ⟨b3, b4⟩ := hM
  clear _hA _hU _h0 _h1 _h2 _h3
  go_enter Tryd.func16, Tryd.ntmps16
  go_wp2_with fail
  go_returns
  exact ⟨rfl, (by repeat' (first | (with_reducible exact Grows.refl _) | (with_reducible refine Grows.alloc ?_ _) | (with_reducible refine Grows.drew ?_) | (with_reducible refine Grows.ext ?_ _ _)))⟩

set_option maxHeartbeats 4000000 in
theorem dpen_1_1 (dA dU dW dM c0 c1 c2 c3 : Int) (_hA : 0 ≤ dA ∧ dA < 256) (_hU : 0 ≤ dU ∧ dU < 256) (hW : 0 ≤ dW ∧ dW < 256) (hM : 0 ≤ dM ∧ dM < 256) (_h0 : 0 ≤ c0 ∧ c0 < 4294967296) (_h1 : 0 ≤ c1 ∧ c1 < 4294967296) (_h2 : 0 ≤ c2 ∧ c2 < 4294967296) (_h3 : 0 ≤ c3 ∧ c3 < 4294967296) (hq : dW % 7 = 1) (hm : dM % 8 = 1) (w : World) : Calls Tryd.prog 16 #[.agg #[.int .u8 dA, .int .u8 dU, .int .u8 dW, .int .u8 dM, .int .u32 c0, .int .u32 c1, .int .u32 c2, .int .u32 c3]] w (Ret (penAg 1 2 0 0) w) := by
  unfold penAg
  obtain ⟨b1, b2⟩ := hW
  obtain ⟨b3, b4⟩ := hM
  clear _hA _hU _h0 _h1 _h2 _h3
  go_enter Tryd.func16, Tryd.ntmps16
  go_wp2_with fail
  go_returns
  exact ⟨rfl, (by repeat' (first | (with_reducible exact Grows.refl _) | (with_reducible refine Grows.alloc ?_ _) | (with_reducible refine Grows.drew ?_) | (with_reducible refine Grows.ext ?_ _ _)))⟩

set_option maxHeartbeats 4000000 in
theorem dpen_2_1 (dA dU dW dM c0 c1 c2 c3 : Int) (_hA : 0 ≤ dA ∧ dA < 256) (_hU : 0 ≤ dU ∧ dU < 256) (hW : 0 ≤ dW ∧ dW < 256) (hM : 0 ≤ dM ∧ dM < 256) (_h0 : 0 ≤ c0 ∧ c0 < 4294967296) (_h1 : 0 ≤ c1 ∧ c1 < 4294967296) (_h2 : 0 ≤ c2 ∧ c2 < 4294967296) (_h3 : 0 ≤ c3 ∧ c3 < 4294967296) (hq : dW % 7 = 2) (hm : dM % 8 = 1) (w : World) : Calls Tryd.prog 16 #[.agg #[.int .u8 dA, .int .u8 dU, .int .u8 dW, .int .u8 dM, .int .u32 c0, .int .u32 c1, .int .u32 c2, .int .u32 c3]] w (Ret (penAg 2 3 0 0) w) := by
  unfold penAg
  obtain ⟨b1, b2⟩ := hW
  obtain ⟨b3, b4⟩ := hM
  clear _hA _hU _h0 _h1 _h2 _h3
  go_enter Tryd.func16, Tryd.ntmps16
  go_wp2_with fail
  go_returns
  exact ⟨rfl, (by repeat' (first | (with_reducible exact Grows.refl _) | (with_reducible refine Grows.alloc ?_ _) | (with_reducible refine Grows.drew ?_) | (with_reducible refine Grows.ext ?_ _ _)))⟩

set_option maxHeartbeats 4000000 in
theorem dpen_1_2 (dA dU dW dM c0 c1 c2 c3 : Int) (_hA : 0 ≤ dA ∧ dA < 256) (_hU : 0 ≤ dU ∧ dU < 256) (hW : 0 ≤ dW ∧ dW < 256) (hM : 0 ≤ dM ∧ dM < 256) (_h0 : 0 ≤ c0 ∧ c0 < 4294967296) (_h1 : 0 ≤ c1 ∧ c1 < 4294967296) (_h2 : 0 ≤ c2 ∧ c2 < 4294967296) (_h3 : 0 ≤ c3 ∧ c3 < 4294967296) (hq : dW % 7 = 1) (hm : dM % 8 = 2) (w : World) : Calls Tryd.prog 16 #[.agg #[.int .u8 dA, .int .u8 dU, .int .u8 dW, .int .u8 dM, .int .u32 c0, .int .u32 c1, .int .u32 c2, .int .u32 c3]] w (Ret (penAg 1 4 0 0) w) := by
  unfold penAg
  obtain ⟨b1, b2⟩ := hW
  obtain ⟨b3, b4⟩ := hM
  clear _hA _hU _h0 _h1 _h2 _h3
  go_enter Tryd.func16, Tryd.ntmps16
  go_wp2_with fail
  go_returns
  exact ⟨rfl, (by repeat' (first | (with_reducible exact Grows.refl _) | (with_reducible refine Grows.alloc ?_ _) | (with_reducible refine Grows.drew ?_) | (with_reducible refine Grows.ext ?_ _ _)))⟩

set_option maxHeartbeats 4000000 in
theorem dpen_2_2 (dA dU dW dM c0 c1 c2 c3 : Int) (_hA : 0 ≤ dA ∧ dA < 256) (_hU : 0 ≤ dU ∧ dU < 256) (hW : 0 ≤ dW ∧ dW < 256) (hM : 0 ≤ dM ∧ dM < 256) (_h0 : 0 ≤ c0 ∧ c0 < 4294967296) (_h1 : 0 ≤ c1 ∧ c1 < 4294967296) (_h2 : 0 ≤ c2 ∧ c2 < 4294967296) (_h3 : 0 ≤ c3 ∧ c3 < 4294967296) (hq : dW % 7 = 2) (hm : dM % 8 = 2) (w : World) : Calls Tryd.prog 16 #[.agg #[.int .u8 dA, .int .u8 dU, .int .u8 dW, .int .u8 dM, .int .u32 c0, .int .u32 c1, .int .u32 c2, .int .u32 c3]] w (Ret (penAg 2 4 0 0) w) := by
  unfold penAg
  obtain ⟨b1, b2⟩ := hW
  obtain ⟨b3, b4⟩ := hM
  clear _hA _hU _h0 _h1 _h2 _h3
  go_enter Tryd.func16, Tryd.ntmps16
  go_wp2_with fail
  go_returns
  exact ⟨rfl, (by repeat' (first | (with_reducible exact Grows.refl _) | (with_reducible refine Grows.alloc ?_ _) | (with_reducible refine Grows.drew ?_) | (with_reducible refine Grows.ext ?_ _ _)))⟩

set_option maxHeartbeats 4000000 in
theorem dpen_1_3 (dA dU dW dM c0 c1 c2 c3 : Int) (_hA : 0 ≤ dA ∧ dA < 256) (_hU : 0 ≤ dU ∧ dU < 256) (hW : 0 ≤ dW ∧ dW < 256) (hM : 0 ≤ dM ∧ dM < 256) (_h0 : 0 ≤ c0 ∧ c0 < 4294967296) (_h1 : 0 ≤ c1 ∧ c1 < 4294967296) (_h2 : 0 ≤ c2 ∧ c2 < 4294967296) (_h3 : 0 ≤ c3 ∧ c3 < 4294967296) (hq : dW % 7 = 1) (hm : dM % 8 = 3) (w : World) : Calls Tryd.prog 16 #[.agg #[.int .u8 dA, .int .u8 dU, .int .u8 dW, .int .u8 dM, .int .u32 c0, .int .u32 c1, .int .u32 c2, .int .u32 c3]] w (Ret (penAg 1 8 0 0) w) := by
  unfold penAg
  obtain ⟨b1, b2⟩ := hW
  obtain ⟨b3, b4⟩ := hM
  clear _hA _hU _h0 _h1 _h2 _h3
  go_enter Tryd.func16, Tryd.ntmps16
  go_wp2_with fail
  go_returns
  exact ⟨rfl, (by repeat' (first | (with_reducible exact Grows.refl _) | (with_reducible refine Grows.alloc ?_ _) | (with_reducible refine Grows.drew ?_) | (with_reducible refine Grows.ext ?_ _ _)))⟩

set_option maxHeartbeats 4000000 in
theorem dpen_2_3 (dA dU dW dM c0 c1 c2 c3 : Int) (_hA : 0 ≤ dA ∧ dA < 256) (_hU : 0 ≤ dU ∧ dU < 256) (hW : 0 ≤ dW ∧ dW < 256) (hM : 0 ≤ dM ∧ dM < 256) (_h0 : 0 ≤ c0 ∧ c0 < 4294967296) (_h1 : 0 ≤ c1 ∧ c1 < 4294967296) (_h2 : 0 ≤ c2 ∧ c2 < 4294967296) (_h3 : 0 ≤ c3 ∧ c3 < 4294967296) (hq : dW % 7 = 2) (hm : dM % 8 = 3) (w : World) : Calls Tryd.prog 16 #[.agg #[.int .u8 dA, .int .u8 dU, .int .u8 dW, .int .u8 dM, .int .u32 c0, .int .u32 c1, .int .u32 c2, .int .u32 c3]] w (Ret (penAg 2 8 0 0) w) := by
  unfold penAg
  obtain ⟨b1, b2⟩ := hW
  obtain ⟨b3, b4⟩ := hM
  clear _hA _hU _h0 _h1 _h2 _h3
  go_enter Tryd.func16, Tryd.ntmps16
  go_wp2_with fail
  go_returns
  exact ⟨rfl, (by repeat' (first | (with_reducible exact Grows.refl _) | (with_reducible refine Grows.alloc ?_ _) | (with_reducible refine Grows.drew ?_) | (with_reducible refine Grows.ext ?_ _ _)))⟩

set_option maxHeartbeats 4000000 in
theorem dpen_1_4 (dA dU dW dM c0 c1 c2 c3 : Int) (_hA : 0 ≤ dA ∧ dA < 256) (_hU : 0 ≤ dU ∧ dU < 256) (hW : 0 ≤ dW ∧ dW < 256) (hM : 0 ≤ dM ∧ dM < 256) (_h0 : 0 ≤ c0 ∧ c0 < 4294967296) (_h1 : 0 ≤ c1 ∧ c1 < 4294967296) (_h2 : 0 ≤ c2 ∧ c2 < 4294967296) (_h3 : 0 ≤ c3 ∧ c3 < 4294967296) (hq : dW % 7 = 1) (hm : dM % 8 = 4) (w : World) : Calls Tryd.prog 16 #[.agg #[.int .u8 dA, .int .u8 dU, .int .u8 dW, .int .u8 dM, .int .u32 c0, .int .u32 c1, .int .u32 c2, .int .u32 c3]] w (Ret (penAg 1 16 0 0) w) := by
  unfold penAg
  obtain ⟨b1, b2⟩ := hW
  obtain ⟨b3, b4⟩ := hM
  clear _hA _hU _h0 _h1 _h2 _h3
  go_enter Tryd.func16, Tryd.ntmps16
  go_wp2_with fail
  go_returns
  exact ⟨rfl, (by repeat' (first | (with_reducible exact Grows.refl _) | (with_reducible refine Grows.alloc ?_ _) | (with_reducible refine Grows.drew ?_) | (with_reducible refine Grows.ext ?_ _ _)))⟩

set_option maxHeartbeats 4000000 in
theorem dpen_2_4 (dA dU dW dM c0 c1 c2 c3 : Int) (_hA : 0 ≤ dA ∧ dA < 256) (_hU : 0 ≤ dU ∧ dU < 256) (hW : 0 ≤ dW ∧ dW < 256) (hM : 0 ≤ dM ∧ dM < 256) (_h0 : 0 ≤ c0 ∧ c0 < 4294967296) (_h1 : 0 ≤ c1 ∧ c1 < 4294967296) (_h2 : 0 ≤ c2 ∧ c2 < 4294967296) (_h3 : 0 ≤ c3 ∧ c3 < 4294967296) (hq : dW % 7 = 2) (hm : dM % 8 = 4) (w : World) : Calls Tryd.prog 16 #[.agg #[.int .u8 dA, .int .u8 dU, .int .u8 dW, .int .u8 dM, .int .u32 c0, .int .u32 c1, .int .u32 c2, .int .u32 c3]] w (Ret (penAg 2 16 0 0) w) := by
  unfold penAg
  obtain ⟨b1, b2⟩ := hW
  obtain ⟨b3, b4⟩ := hM
  clear _hA _hU _h0 _h1 _h2 _h3
  go_enter Tryd.func16, Tryd.ntmps16
  go_wp2_with fail
  go_returns
  exact ⟨rfl, (by repeat' (first | (with_reducible exact Grows.refl _) | (with_reducible refine Grows.alloc ?_ _) | (with_reducible refine Grows.drew ?_) | (with_reducible refine Grows.ext ?_ _ _)))⟩

set_option maxHeartbeats 4000000 in
theorem dpen_1_5 (dA dU dW dM c0 c1 c2 c3 : Int) (_hA : 0 ≤ dA ∧ dA < 256) (_hU : 0 ≤ dU ∧ dU < 256) (hW : 0 ≤ dW ∧ dW < 256) (hM : 0 ≤ dM ∧ dM < 256) (_h0 : 0 ≤ c0 ∧ c0 < 4294967296) (_h1 : 0 ≤ c1 ∧ c1 < 4294967296) (_h2 : 0 ≤ c2 ∧ c2 < 4294967296) (_h3 : 0 ≤ c3 ∧ c3 < 4294967296) (hq : dW % 7 = 1) (hm : dM % 8 = 5) (w : World) : Calls Tryd.prog 16 #[.agg #[.int .u8 dA, .int .u8 dU, .int .u8 dW, .int .u8 dM, .int .u32 c0, .int .u32 c1, .int .u32 c2, .int .u32 c3]] w (Ret (penAg 1 32 0 0) w) := by
  unfold penAg
  obtain ⟨b1, b2⟩ := hW
  obtain ⟨b3, b4⟩ := hM
  clear _hA _hU _h0 _h1 _h2 _h3
  go_enter Tryd.func16, Tryd.ntmps16
  go_wp2_with fail
  go_returns
  exact ⟨rfl, (by repeat' (first | (with_reducible exact Grows.refl _) | (with_reducible refine Grows.alloc ?_ _) | (with_reducible refine Grows.drew ?_) | (with_reducible refine Grows.ext ?_ _ _)))⟩

set_option maxHeartbeats 4000000 in
theorem dpen_2_5 (dA dU dW dM c0 c1 c2 c3 : Int) (_hA : 0 ≤ dA ∧ dA < 256) (_hU : 0 ≤ dU ∧ dU < 256) (hW : 0 ≤ dW ∧ dW < 256) (hM : 0 ≤ dM ∧ dM < 256) (_h0 : 0 ≤ c0 ∧ c0 < 4294967296) (_h1 : 0 ≤ c1 ∧ c1 < 4294967296) (_h2 : 0 ≤ c2 ∧ c2 < 4294967296) (_h3 : 0 ≤ c3 ∧ c3 < 4294967296) (hq : dW % 7 = 2) (hm : dM % 8 = 5) (w : World) : Calls Tryd.prog 16 #[.agg #[.int .u8 dA, .int .u8 dU, .int .u8 dW, .int .u8 dM, .int .u32 c0, .int .u32 c1, .int .u32 c2, .int .u32 c3]] w (Ret (penAg 2 32 0 0) w) := by
  unfold penAg
  obtain ⟨b1, b2⟩ := hW
  obtain ⟨b3, b4⟩ := hM
  clear _hA _hU _h0 _h1 _h2 _h3
  go_enter Tryd.func16, Tryd.ntmps16
  go_wp2_with fail
  go_returns
  exact ⟨rfl, (by repeat' (first | (with_reducible exact Grows.refl _) | (with_reducible refine Grows.alloc ?_ _) | (with_reducible refine Grows.drew ?_) | (with_reducible refine Grows.ext ?_ _ _)))⟩

set_option maxHeartbeats 4000000 in
theorem dpen_1_6 (dA dU dW dM c0 c1 c2 c3 : Int) (_hA : 0 ≤ dA ∧ dA < 256) (_hU : 0 ≤ dU ∧ dU < 256) (hW : 0 ≤ dW ∧ dW < 256) (hM : 0 ≤ dM ∧ dM < 256) (_h0 : 0 ≤ c0 ∧ c0 < 4294967296) (_h1 : 0 ≤ c1 ∧ c1 < 4294967296) (_h2 : 0 ≤ c2 ∧ c2 < 4294967296) (_h3 : 0 ≤ c3 ∧ c3 < 4294967296) (hq : dW % 7 = 1) (hm : dM % 8 = 6) (w : World) : Calls Tryd.prog 16 #[.agg #[.int .u8 dA, .int .u8 dU, .int .u8 dW, .int .u8 dM, .int .u32 c0, .int .u32 c1, .int .u32 c2, .int .u32 c3]] w (Ret (penAg 1 64 0 0) w) := by
  unfold penAg
  obtain ⟨b1, b2⟩ := hW
  obtain ⟨b3, b4⟩ := hM
  clear _hA _hU _h0 _h1 _h2 _h3
  go_enter Tryd.func16, Tryd.ntmps16
  go_wp2_with fail
  go_returns
  exact ⟨rfl, (by repeat' (first | (with_reducible exact Grows.refl _) | (with_reducible refine Grows.alloc ?_ _) | (with_reducible refine Grows.drew ?_) | (with_reducible refine Grows.ext ?_ _ _)))⟩

set_option maxHeartbeats 4000000 in
theorem dpen_2_6 (dA dU dW dM c0 c1 c2 c3 : Int) (_hA : 0 ≤ dA ∧ dA < 256) (_hU : 0 ≤ dU ∧ dU < 256) (hW : 0 ≤ dW ∧ dW < 256) (hM : 0 ≤ dM ∧ dM < 256) (_h0 : 0 ≤ c0 ∧ c0 < 4294967296) (_h1 : 0 ≤ c1 ∧ c1 < 4294967296) (_h2 : 0 ≤ c2 ∧ c2 < 4294967296) (_h3 : 0 ≤ c3 ∧ c3 < 4294967296) (hq : dW % 7 = 2) (hm : dM % 8 = 6) (w : World) : Calls Tryd.prog 16 #[.agg #[.int .u8 dA, .int .u8 dU, .int .u8 dW, .int .u8 dM, .int .u32 c0, .int .u32 c1, .int .u32 c2, .int .u32 c3]] w (Ret (penAg 2 64 0 0) w) := by
  unfold penAg
  obtain ⟨b1, b2⟩ := hW
  obtain ⟨b3, b4⟩ := hM
  clear _hA _hU _h0 _h1 _h2 _h3
  go_enter Tryd.func16, Tryd.ntmps16
  go_wp2_with fail
  go_returns
  exact ⟨rfl, (by repeat' (first | (with_reducible exact Grows.refl _) | (with_reducible refine Grows.alloc ?_ _) | (with_reducible refine Grows.drew ?_) | (with_reducible refine Grows.ext ?_ _ _)))⟩

set_option maxHeartbeats 4000000 in
theorem dpen_1_7 (dA dU dW dM c0 c1 c2 c3 : Int) (_hA : 0 ≤ dA ∧ dA < 256) (_hU : 0 ≤ dU ∧ dU < 256) (hW : 0 ≤ dW ∧ dW < 256) (hM : 0 ≤ dM ∧ dM < 256) (_h0 : 0 ≤ c0 ∧ c0 < 4294967296) (_h1 : 0 ≤ c1 ∧ c1 < 4294967296) (_h2 : 0 ≤ c2 ∧ c2 < 4294967296) (_h3 : 0 ≤ c3 ∧ c3 < 4294967296) (hq : dW % 7 = 1) (hm : dM % 8 = 7) (w : World) : Calls Tryd.prog 16 #[.agg #[.int .u8 dA, .int .u8 dU, .int .u8 dW, .int .u8 dM, .int .u32 c0, .int .u32 c1, .int .u32 c2, .int .u32 c3]] w (Ret (penAg 1 128 0 0) w) := by
  unfold penAg
  obtain ⟨b1, b2⟩ := hW
  obtain ⟨b3, b4⟩ := hM
  clear _hA _hU _h0 _h1 _h2 _h3
  go_enter Tryd.func16, Tryd.ntmps16
  go_wp2_with fail
  go_returns
  exact ⟨rfl, (by repeat' (first | (with_reducible exact Grows.refl _) | (with_reducible refine Grows.alloc ?_ _) | (with_reducible refine Grows.drew ?_) | (with_reducible refine Grows.ext ?_ _ _)))⟩

set_option maxHeartbeats 4000000 in
theorem dpen_2_7 (dA dU dW dM c0 c1 c2 c3 : Int) (_hA : 0 ≤ dA ∧ dA < 256) (_hU : 0 ≤ dU ∧ dU < 256) (hW : 0 ≤ dW ∧ dW < 256) (hM : 0 ≤ dM ∧ dM < 256) (_h0 : 0 ≤ c0 ∧ c0 < 4294967296) (_h1 : 0 ≤ c1 ∧ c1 < 4294967296) (_h2 : 0 ≤ c2 ∧ c2 < 4294967296) (_h3 : 0 ≤ c3 ∧ c3 < 4294967296) (hq : dW % 7 = 2) (hm : dM % 8 = 7) (w : World) : Calls Tryd.prog 16 #[.agg #[.int .u8 dA, .int .u8 dU, .int .u8 dW, .int .u8 dM, .int .u32 c0, .int .u32 c1, .int .u32 c2, .int .u32 c3]] w (Ret (penAg 2 128 0 0) w) := by
  unfold penAg
  obtain ⟨b1, b2⟩ := hW
  obtain ⟨b3, b4⟩ := hM
  clear _hA _hU _h0 _h1 _h2 _h3
  go_enter Tryd.func16, Tryd.ntmps16
  go_wp2_with fail
  go_returns
  exact ⟨rfl, (by repeat' (first | (with_reducible exact Grows.refl _) | (with_reducible refine Grows.alloc ?_ _) | (with_reducible refine Grows.drew ?_) | (with_reducible refine Grows.ext ?_ _ _)))⟩

set_option maxHeartbeats 4000000 in
theorem dpen_3 (dA dU dW dM c0 c1 c2 c3 : Int) (_hA : 0 ≤ dA ∧ dA < 256) (_hU : 0 ≤ dU ∧ dU < 256) (hW : 0 ≤ dW ∧ dW < 256) (hM : 0 ≤ dM ∧ dM < 256) (_h0 : 0 ≤ c0 ∧ c0 < 4294967296) (_h1 : 0 ≤ c1 ∧ c1 < 4294967296) (_h2 : 0 ≤ c2 ∧ c2 < 4294967296) (_h3 : 0 ≤ c3 ∧ c3 < 4294967296) (hq : dW % 7 = 3) (w : World) : Calls Tryd.prog 16 #[.agg #[.int .u8 dA, .int .u8 dU, .int .u8 dW, .int .u8 dM, .int .u32 c0, .int .u32 c1, .int .u32 c2, .int .u32 c3]] w (Ret (penAg 3 (dM % 6) 0 0) w) := by
  unfold penAg
  obtain ⟨b1, b2⟩ := hW
  obtain ⟨b3, b4⟩ := hM
  clear _hA _hU _h0 _h1 _h2 _h3
  go_enter Tryd.func16, Tryd.ntmps16
  go_wp2_with fail
  go_returns
  exact ⟨rfl, (by repeat' (first | (with_reducible exact Grows.refl _) | (with_reducible refine Grows.alloc ?_ _) | (with_reducible refine Grows.drew ?_) | (with_reducible refine Grows.ext ?_ _ _)))⟩

set_option maxHeartbeats 4000000 in
theorem dpen_4 (dA dU dW dM c0 c1 c2 c3 : Int) (_hA : 0 ≤ dA ∧ dA < 256) (_hU : 0 ≤ dU ∧ dU < 256) (hW : 0 ≤ dW ∧ dW < 256) (hM : 0 ≤ dM ∧ dM < 256) (_h0 : 0 ≤ c0 ∧ c0 < 4294967296) (_h1 : 0 ≤ c1 ∧ c1 < 4294967296) (_h2 : 0 ≤ c2 ∧ c2 < 4294967296) (h3 : 0 ≤ c3 ∧ c3 < 4294967296) (hq : dW % 7 = 4) (w : World) : Calls Tryd.prog 16 #[.agg #[.int .u8 dA, .int .u8 dU, .int .u8 dW, .int .u8 dM, .int .u32 c0, .int .u32 c1, .int .u32 c2, .int .u32 c3]] w (Ret (penAg 4 0 (colK c3) (colN c3)) w) := by
  unfold penAg
  have Hc := Lib.hid fun W => col_any c3 h3 W
  generalize colK c3 = k3 at *
  generalize colN c3 = n3 at *
  obtain ⟨b1, b2⟩ := hW
  obtain ⟨b3, b4⟩ := hM
  clear _hA _hU _h0 _h1 _h2 h3
  go_enter Tryd.func16, Tryd.ntmps16
  go_wp2_with (go_at_call 32; (with_reducible refine (Hc.out _).mono ?_); rintro e w' ⟨rfl, h1, d1, rfl⟩)
  go_returns
  exact ⟨rfl, (by repeat' (first | (with_reducible exact Grows.refl _) | (with_reducible refine Grows.alloc ?_ _) | (with_reducible refine Grows.drew ?_) | (with_reducible refine Grows.ext ?_ _ _)))⟩

set_option maxHeartbeats 4000000 in
theorem dpen_5 (dA dU dW dM c0 c1 c2 c3 : Int) (_hA : 0 ≤ dA ∧ dA < 256) (_hU : 0 ≤ dU ∧ dU < 256) (hW : 0 ≤ dW ∧ dW < 256) (hM : 0 ≤ dM ∧ dM < 256) (_h0 : 0 ≤ c0 ∧ c0 < 4294967296) (_h1 : 0 ≤ c1 ∧ c1 < 4294967296) (_h2 : 0 ≤ c2 ∧ c2 < 4294967296) (h3 : 0 ≤ c3 ∧ c3 < 4294967296) (hq : dW % 7 = 5) (w : World) : Calls Tryd.prog 16 #[.agg #[.int .u8 dA, .int .u8 dU, .int .u8 dW, .int .u8 dM, .int .u32 c0, .int .u32 c1, .int .u32 c2, .int .u32 c3]] w (Ret (penAg 5 0 (colK c3) (colN c3)) w) := by
  unfold penAg
  have Hc := Lib.hid fun W => col_any c3 h3 W
  generalize colK c3 = k3 at *
  generalize colN c3 = n3 at *
  obtain ⟨b1, b2⟩ := hW
  obtain ⟨b3, b4⟩ := hM
  clear _hA _hU _h0 _h1 _h2 h3
  go_enter Tryd.func16, Tryd.ntmps16
  go_wp2_with (go_at_call 32; (with_reducible refine (Hc.out _).mono ?_); rintro e w' ⟨rfl, h1, d1, rfl⟩)
  go_returns
  exact ⟨rfl, (by repeat' (first | (with_reducible exact Grows.refl _) | (with_reducible refine Grows.alloc ?_ _) | (with_reducible refine Grows.drew ?_) | (with_reducible refine Grows.ext ?_ _ _)))⟩

set_option maxHeartbeats 4000000 in
theorem dpen_6 (dA dU dW dM c0 c1 c2 c3 : Int) (_hA : 0 ≤ dA ∧ dA < 256) (_hU : 0 ≤ dU ∧ dU < 256) (hW : 0 ≤ dW ∧ dW < 256) (hM : 0 ≤ dM ∧ dM < 256) (_h0 : 0 ≤ c0 ∧ c0 < 4294967296) (_h1 : 0 ≤ c1 ∧ c1 < 4294967296) (_h2 : 0 ≤ c2 ∧ c2 < 4294967296) (h3 : 0 ≤ c3 ∧ c3 < 4294967296) (hq : dW % 7 = 6) (w : World) : Calls Tryd.prog 16 #[.agg #[.int .u8 dA, .int .u8 dU, .int .u8 dW, .int .u8 dM, .int .u32 c0, .int .u32 c1, .int .u32 c2, .int .u32 c3]] w (Ret (penAg 6 0 (colK c3) (colN c3)) w) := by
  unfold penAg
  have Hc := Lib.hid fun W => col_any c3 h3 W
  generalize colK c3 = k3 at *
  generalize colN c3 = n3 at *
  obtain ⟨b1, b2⟩ := hW
  obtain ⟨b3, b4⟩ := hM
  clear _hA _hU _h0 _h1 _h2 h3
  go_enter Tryd.func16, Tryd.ntmps16
  go_wp2_with (go_at_call 32; (with_reducible refine (Hc.out _).mono ?_); rintro e w' ⟨rfl, h1, d1, rfl⟩)
  go_returns
  exact ⟨rfl, (by repeat' (first | (with_reducible exact Grows.refl _) | (with_reducible refine Grows.alloc ?_ _) | (with_reducible refine Grows.drew ?_) | (with_reducible refine Grows.ext ?_ _ _)))⟩

theorem col_ok (n : Int) (_h : 0 ≤ n ∧ n < 4294967296) : okCol (colK n) (colN n) = true := by
  unfold colK colN
  split
  · decide
  · split
    · have a : 0 ≤ n / 3 % 256 := by omega
      have b : n / 3 % 256 ≤ 255 := by omega
      simp [okCol, a, b]
    · have a : 0 ≤ n / 3 % 16777216 := by omega
      have b : n / 3 % 16777216 ≤ 16777215 := by omega
      simp [okCol, a, b]
theorem dpen_pen (dA dU dW dM c0 c1 c2 c3 : Int) (hA : 0 ≤ dA ∧ dA < 256) (hU : 0 ≤ dU ∧ dU < 256) (hW : 0 ≤ dW ∧ dW < 256) (hM : 0 ≤ dM ∧ dM < 256) (h0 : 0 ≤ c0 ∧ c0 < 4294967296) (h1 : 0 ≤ c1 ∧ c1 < 4294967296) (h2 : 0 ≤ c2 ∧ c2 < 4294967296) (h3 : 0 ≤ c3 ∧ c3 < 4294967296) : ∃ p : Pen, okPen p = true ∧ ∀ W, Calls Tryd.prog 16 #[.agg #[.int .u8 dA, .int .u8 dU, .int .u8 dW, .int .u8 dM, .int .u32 c0, .int .u32 c1, .int .u32 c2, .int .u32 c3]] W (Ret (actV p) W) := by
  have hq : dW % 7 = 0 ∨ dW % 7 = 1 ∨ dW % 7 = 2 ∨ dW % 7 = 3 ∨ dW % 7 = 4 ∨ dW % 7 = 5 ∨ dW % 7 = 6 := by omega
  have hm : dM % 8 = 0 ∨ dM % 8 = 1 ∨ dM % 8 = 2 ∨ dM % 8 = 3 ∨ dM % 8 = 4 ∨ dM % 8 = 5 ∨ dM % 8 = 6 ∨ dM % 8 = 7 := by omega
  have hc := col_ok c3 h3
  rcases hq with hq | hq | hq | hq | hq | hq | hq
  · exact ⟨pen 0 0, by decide, fun W => dpen_0 dA dU dW dM c0 c1 c2 c3 hA hU hW hM h0 h1 h2 h3 hq W⟩
  · rcases hm with hm | hm | hm | hm | hm | hm | hm | hm
    · exact ⟨pen 1 1, by decide, fun W => dpen_1_0 dA dU dW dM c0 c1 c2 c3 hA hU hW hM h0 h1 h2 h3 hq hm W⟩
    · exact ⟨pen 1 2, by decide, fun W => dpen_1_1 dA dU dW dM c0 c1 c2 c3 hA hU hW hM h0 h1 h2 h3 hq hm W⟩
    · exact ⟨pen 1 4, by decide, fun W => dpen_1_2 dA dU dW dM c0 c1 c2 c3 hA hU hW hM h0 h1 h2 h3 hq hm W⟩
    · exact ⟨pen 1 8, by decide, fun W => dpen_1_3 dA dU dW dM c0 c1 c2 c3 hA hU hW hM h0 h1 h2 h3 hq hm W⟩
    · exact ⟨pen 1 16, by decide, fun W => dpen_1_4 dA dU dW dM c0 c1 c2 c3 hA hU hW hM h0 h1 h2 h3 hq hm W⟩
    · exact ⟨pen 1 32, by decide, fun W => dpen_1_5 dA dU dW dM c0 c1 c2 c3 hA hU hW hM h0 h1 h2 h3 hq hm W⟩
    · exact ⟨pen 1 64, by decide, fun W => dpen_1_6 dA dU dW dM c0 c1 c2 c3 hA hU hW hM h0 h1 h2 h3 hq hm W⟩
    · exact ⟨pen 1 128, by decide, fun W => dpen_1_7 dA dU dW dM c0 c1 c2 c3 hA hU hW hM h0 h1 h2 h3 hq hm W⟩
  · rcases hm with hm | hm | hm | hm | hm | hm | hm | hm
    · exact ⟨pen 2 3, by decide, fun W => dpen_2_0 dA dU dW dM c0 c1 c2 c3 hA hU hW hM h0 h1 h2 h3 hq hm W⟩
    · exact ⟨pen 2 3, by decide, fun W => dpen_2_1 dA dU dW dM c0 c1 c2 c3 hA hU hW hM h0 h1 h2 h3 hq hm W⟩
    · exact ⟨pen 2 4, by decide, fun W => dpen_2_2 dA dU dW dM c0 c1 c2 c3 hA hU hW hM h0 h1 h2 h3 hq hm W⟩
    · exact ⟨pen 2 8, by decide, fun W => dpen_2_3 dA dU dW dM c0 c1 c2 c3 hA hU hW hM h0 h1 h2 h3 hq hm W⟩
    · exact ⟨pen 2 16, by decide, fun W => dpen_2_4 dA dU dW dM c0 c1 c2 c3 hA hU hW hM h0 h1 h2 h3 hq hm W⟩
    · exact ⟨pen 2 32, by decide, fun W => dpen_2_5 dA dU dW dM c0 c1 c2 c3 hA hU hW hM h0 h1 h2 h3 hq hm W⟩
    · exact ⟨pen 2 64, by decide, fun W => dpen_2_6 dA dU dW dM c0 c1 c2 c3 hA hU hW hM h0 h1 h2 h3 hq hm W⟩
    · exact ⟨pen 2 128, by decide, fun W => dpen_2_7 dA dU dW dM c0 c1 c2 c3 hA hU hW hM h0 h1 h2 h3 hq hm W⟩
  · refine ⟨pen 3 (dM % 6), ?_, fun W => dpen_3 dA dU dW dM c0 c1 c2 c3 hA hU hW hM h0 h1 h2 h3 hq W⟩
    have a : 0 ≤ dM % 6 := by omega
    have b : dM % 6 ≤ 5 := by omega
    simp [okPen, pen, a, b]
  · exact ⟨⟨4, 0, colK c3, colN c3⟩, by simp [okPen, hc], fun W => dpen_4 dA dU dW dM c0 c1 c2 c3 hA hU hW hM h0 h1 h2 h3 hq W⟩
  · exact ⟨⟨5, 0, colK c3, colN c3⟩, by simp [okPen, hc], fun W => dpen_5 dA dU dW dM c0 c1 c2 c3 hA hU hW hM h0 h1 h2 h3 hq W⟩
  · exact ⟨⟨6, 0, colK c3, colN c3⟩, by simp [okPen, hc], fun W => dpen_6 dA dU dW dM c0 c1 c2 c3 hA hU hW hM h0 h1 h2 h3 hq W⟩
end Go.Proofs.YtobbphkfdhjmdaaDoor

namespace Go.Proofs.YtobbphkfdhjmdaaDoor
open Go.RowKit

open Go.ChangeShapes Go.WideShapes Go.ChangeAt Go.RowKit Go.Deep Go.Joins
structure Drf where
  dA : Int
  dU : Int
  dW : Int
  dM : Int
  d0 : Int
  d1 : Int
  d2 : Int
  d3 : Int
def Drf.Ok (d : Drf) : Prop := (0 ≤ d.dA ∧ d.dA < 256) ∧ (0 ≤ d.dU ∧ d.dU < 256) ∧ (0 ≤ d.dW ∧ d.dW < 256) ∧ (0 ≤ d.dM ∧ d.dM < 256) ∧ (0 ≤ d.d0 ∧ d.d0 < 4294967296) ∧ (0 ≤ d.d1 ∧ d.d1 < 4294967296) ∧ (0 ≤ d.d2 ∧ d.d2 < 4294967296) ∧ (0 ≤ d.d3 ∧ d.d3 < 4294967296)
/-- The draft's cells. -/
def DrfAt (w : World) (bl off : Nat) (d : Drf) : Prop := w.cell? ⟨bl, off, none⟩ = some (.int .u8 d.dA) ∧ w.cell? ⟨bl, off + 1, none⟩ = some (.int .u8 d.dU) ∧ w.cell? ⟨bl, off + 2, none⟩ = some (.int .u8 d.dW) ∧ w.cell? ⟨bl, off + 3, none⟩ = some (.int .u8 d.dM) ∧ w.cell? ⟨bl, off + 4, none⟩ = some (.int .u32 d.d0) ∧ w.cell? ⟨bl, off + 5, none⟩ = some (.int .u32 d.d1) ∧ w.cell? ⟨bl, off + 6, none⟩ = some (.int .u32 d.d2) ∧ w.cell? ⟨bl, off + 7, none⟩ = some (.int .u32 d.d3)
theorem DrfAt.lt {w : World} {bl off : Nat} {d : Drf} (h : DrfAt w bl off d) : bl < w.heap.size := by
  have h := h.1
  unfold World.cell? at h
  rcases Nat.lt_or_ge bl w.heap.size with h' | h'
  · exact h'
  · rw [Array.getElem?_eq_none h'] at h
    cases h
theorem DrfAt.grows {w w' : World} {bl off : Nat} {d : Drf} (h : DrfAt w bl off d) (g : Grows w w') : DrfAt w' bl off d := by
  have hb := h.lt
  obtain ⟨x, y, rfl⟩ := g
  obtain ⟨h0, h1, h2, h3, h4, h5, h6, h7⟩ := h
  refine ⟨?_, ?_, ?_, ?_, ?_, ?_, ?_, ?_⟩ <;> rw [ext_cell _ _ _ _ _ hb] <;> assumption
theorem ran32 {n : Int} (h : IntKind.u32.min ≤ n ∧ n ≤ IntKind.u32.max) : 0 ≤ n ∧ n < 4294967296 := by
  simp [IntKind.min, IntKind.max, IntKind.signed, IntKind.bits] at h
  omega
section
variable {H : Type} {enc : TypeId × Value → H} {w : World}
instance : Inhabited Drf := ⟨⟨0, 0, 0, 0, 0, 0, 0, 0⟩⟩
set_option maxRecDepth 100000 in
theorem open_drafts {v : Value} {d : DataW H} {p : List MemPlace} {sp : Nat → Bool} {held : Bool} {r : Reach} {b : Nat} (hv : Value.okWide Tryd.prog w r b 40 v) (h : DataW.Trod enc Tryd.prog w 0 sp held 40 v d p) :
    (∃ oa cap, v = .slice oa 0 cap) ∨ ∃ (bl off len cap : Nat) (F : Nat → Drf), v = .slice (some ⟨bl, off, none⟩) len cap ∧ 0 < len ∧ len ≤ cap ∧ len ≤ 9223372036854775807 ∧ bl < w.heap.size ∧ (∀ i, i < len → (F i).Ok) ∧ ∀ i, i < len → DrfAt w bl (off + i * 8) (F i) := by
  obtain ⟨fuel, h⟩ := h
  have hsl : ∃ oa l c, v = .slice oa l c := by
    simp only [Value.okWide, Tryd.underlying40, Cell.okWide] at hv
    cases v <;> simp_all [Cell.ok]
  obtain ⟨oa, len, cap, rfl⟩ := hsl
  rcases open_slice Tryd.underlying40 h with ⟨h1, -⟩ | ⟨a, len2, cap2, m, n, D, Pl, h1, hb, hl, hm, hmm, -, hx⟩
  · simp [Value.cells] at h1
    obtain ⟨rfl, rfl, rfl⟩ := h1
    exact Or.inl ⟨none, 0, rfl⟩
  simp [Value.cells] at h1
  obtain ⟨rfl, rfl, rfl⟩ := h1
  have hlm : len ≤ m := by rw [hmm]; split <;> omega
  by_cases h0 : len = 0
  · subst h0
    exact Or.inl ⟨_, _, rfl⟩
  have hC : Tryd.prog.cellsOf 46 = 8 := by kernel_rfl
  have hC5 : Tryd.prog.cellsOf 5 = 1 := by kernel_rfl
  have hC28 : Tryd.prog.cellsOf 43 = 1 := by kernel_rfl
  have hC32 : Tryd.prog.cellsOf 44 = 4 := by kernel_rfl
  have each : ∀ i, i < m → ∃ q : Drf, q.Ok ∧ ∀ (j : Nat) (x : Value), [Value.int .u8 q.dA, Value.int .u8 q.dU, Value.int .u8 q.dW, Value.int .u8 q.dM, Value.int .u32 q.d0, Value.int .u32 q.d1, Value.int .u32 q.d2, Value.int .u32 q.d3][j]? = some x → w.cell? (a.add (i * 8 + j)) = some x := by
    intro i hi
    obtain ⟨cs', g1, g2⟩ := hx i hi
    rw [hC] at g1
    obtain ⟨_, hlen, hcell⟩ := World.cells?_some g1
    obtain ⟨ys, k, -, -, -, hyl, hf⟩ := DataW.trod_struct Tryd.underlying46 g2
    replace hyl : ys.length = 5 := hyl
    match cs', hlen with
    | [v0, v1, v2, v3, v4, v5, v6, v7], _ =>
      have t0 : DataW.trod enc Tryd.prog w 0 sp held k 5 (([v0, v1, v2, v3, v4, v5, v6, v7].drop 0).take (Tryd.prog.cellsOf 5)) = ys[0]? := hf 0 _ rfl
      have t1 : DataW.trod enc Tryd.prog w 0 sp held k 5 (([v0, v1, v2, v3, v4, v5, v6, v7].drop 1).take (Tryd.prog.cellsOf 5)) = ys[1]? := hf 1 _ rfl
      have t2 : DataW.trod enc Tryd.prog w 0 sp held k 5 (([v0, v1, v2, v3, v4, v5, v6, v7].drop 2).take (Tryd.prog.cellsOf 5)) = ys[2]? := hf 2 _ rfl
      have t3 : DataW.trod enc Tryd.prog w 0 sp held k 5 (([v0, v1, v2, v3, v4, v5, v6, v7].drop 3).take (Tryd.prog.cellsOf 5)) = ys[3]? := hf 3 _ rfl
      have t4 : DataW.trod enc Tryd.prog w 0 sp held k 44 (([v0, v1, v2, v3, v4, v5, v6, v7].drop 4).take (Tryd.prog.cellsOf 44)) = ys[4]? := hf 4 _ rfl
      have y : ∀ j, j < 5 → ∃ z, ys[j]? = some z := fun j hj => ⟨ys[j]'(by omega), List.getElem?_eq_getElem (by omega)⟩
      obtain ⟨z0, hz0⟩ := y 0 (by omega)
      obtain ⟨z1, hz1⟩ := y 1 (by omega)
      obtain ⟨z2, hz2⟩ := y 2 (by omega)
      obtain ⟨z3, hz3⟩ := y 3 (by omega)
      obtain ⟨z4, hz4⟩ := y 4 (by omega)
      rw [hz0] at t0
      rw [hz1] at t1
      rw [hz2] at t2
      rw [hz3] at t3
      rw [hz4] at t4
      simp only [hC5, hC32, List.drop, List.take] at t0 t1 t2 t3 t4
      obtain ⟨x0, e0, -, r0⟩ := DataW.trod_int Tryd.underlying5 t0
      obtain ⟨x1, e1, -, r1⟩ := DataW.trod_int Tryd.underlying5 t1
      obtain ⟨x2, e2, -, r2⟩ := DataW.trod_int Tryd.underlying5 t2
      obtain ⟨x3, e3, -, r3⟩ := DataW.trod_int Tryd.underlying5 t3
      obtain ⟨_, _, _, _, _, -, s4, s5, s6, s7⟩ := trod_array4 Tryd.underlying44 hC28 t4
      obtain ⟨x4, e4, -, r4⟩ := DataW.trod_int Tryd.underlying43 s4
      obtain ⟨x5, e5, -, r5⟩ := DataW.trod_int Tryd.underlying43 s5
      obtain ⟨x6, e6, -, r6⟩ := DataW.trod_int Tryd.underlying43 s6
      obtain ⟨x7, e7, -, r7⟩ := DataW.trod_int Tryd.underlying43 s7
      simp only [List.cons.injEq, and_true] at e0 e1 e2 e3 e4 e5 e6 e7
      subst e0; subst e1; subst e2; subst e3; subst e4; subst e5; subst e6; subst e7
      refine ⟨⟨x0, x1, x2, x3, x4, x5, x6, x7⟩, ⟨range_u8 (range_wf r0), range_u8 (range_wf r1), range_u8 (range_wf r2), range_u8 (range_wf r3), ran32 (range_wf r4), ran32 (range_wf r5), ran32 (range_wf r6), ran32 (range_wf r7)⟩, fun j x hj => ?_⟩
      have hj8 : j < 8 := by
        rcases Nat.lt_or_ge j 8 with h' | h'
        · exact h'
        · rw [List.getElem?_eq_none (by simpa using h')] at hj
          cases hj
      have := hcell j hj8
      rw [add_add] at this
      exact this.trans hj
  obtain ⟨q, hq⟩ := choose_lt each
  have hz := (hq 0 (by omega)).2 0 _ rfl
  have hsp : a.spot = none := by simpa [Addr.add] using World.cell?_spot hz
  obtain ⟨bl, off, spot⟩ := a
  subst hsp
  have hat : ∀ i, i < len → DrfAt w bl (off + i * 8) (q i) := fun i hi => by
    have hh := (hq i (by omega)).2
    simp only [add_plain, ← Nat.add_assoc] at hh
    exact ⟨hh 0 _ rfl, hh 1 _ rfl, hh 2 _ rfl, hh 3 _ rfl, hh 4 _ rfl, hh 5 _ rfl, hh 6 _ rfl, hh 7 _ rfl⟩
  exact Or.inr ⟨bl, off, len, cap, q, rfl, by omega, hl, by simp only [maxLen] at hm; omega, (hat 0 (by omega)).lt, fun i hi => (hq i (by omega)).1, hat⟩
end
end Go.Proofs.YtobbphkfdhjmdaaDoor

namespace Go.Proofs.YtobbphkfdhjmdaaDoor
open Go.RowKit

set_option maxRecDepth 100000 in
set_option maxHeartbeats 8000000 in
theorem same05 (va vb : Value) (r : List (List Int)) (w : World) (hl : r.length ≤ 100000) (hp : ∀ p ∈ r, p.length ≤ 100000) (ha : RowAt w va r) (hb : RowAt w vb r) : Calls Tryd.prog 17 #[va, vb] w (Ret (.bool true) w) := by
  obtain ⟨aa, capa, rfl, hca, hia⟩ := ha
  obtain ⟨ab, capb, rfl, hcb, hib⟩ := hb
  have Ha := Lib.hid hia
  have Hb := Lib.hid hib
  clear hia hib
  go_enter Tryd.func17, Tryd.ntmps17
  go_wp2_with fail
  go_loopw [5] (fun i wr' => ∃ (wv : World) (k : Nat), wv = wr' ∧ k ≤ r.length ∧ i = .int .i64 k ∧ Grows w wv) (fun i _ => r.length - (intOf i).toNat)
  case atStart => exact ⟨_, 0, rfl, Nat.zero_le _, rfl, Grows.refl _⟩
  case round =>
    obtain ⟨wa, k, rfl, hk, rfl, hG⟩ := hrel
    by_cases hlt : k < r.length
    · have e1 : decide (k < r.length) = true := by simpa using hlt
      obtain ⟨ba, offa, rfl, hba, hcella⟩ := Ha.out (by intro e; subst e; simp at hlt)
      obtain ⟨bb, offb, rfl, hbb, hcellb⟩ := Hb.out (by intro e; subst e; simp at hlt)
      obtain ⟨sa, hsa, ia⟩ := hcella k hlt
      obtain ⟨sb, hsb, ib⟩ := hcellb k hlt
      have hpl := hp (r[k]'hlt) (List.getElem_mem hlt)
      rw [List.getElem?_eq_getElem hlt, Option.getD_some] at ia ib
      generalize r[k]'hlt = p at *
      obtain ⟨pa, pca, rfl, hpca, ja⟩ := ia
      obtain ⟨pb, pcb, rfl, hpcb, jb⟩ := ib
      have Ja := Lib.hid ja
      have Jb := Lib.hid jb
      have ca := (hG.cellOf hba).trans hsa
      have cb := (hG.cellOf hbb).trans hsb
      have xa := Nat.lt_of_lt_of_le hba hG.size
      have xb := Nat.lt_of_lt_of_le hbb hG.size
      have HG := Lib.hid hG
      have e2 : (((p.length : Nat) : Int) != (p.length : Nat)) = false := by simp
      clear hcella hcellb hG ja jb
      go_wp2_with fail
      refine wp_region_grow (by kernel_rfl) (by kernel_rfl) ?_
      repeat (first | go_big_quiet_step ((fail)) | quiet_step ((fail)))
      refine wpQuiet_nil ?_
      rintro _ ⟨g134, rfl⟩
      go_wp2_with fail
      go_loopw [6] (fun i wr' => ∃ (wv : World) (j : Nat), wv = wr' ∧ j ≤ p.length ∧ i = .int .i64 j ∧ Grows wa wv) (fun i _ => p.length - (intOf i).toNat)
      case atStart => exact ⟨_, 0, rfl, Nat.zero_le _, rfl, (by repeat' (first | (with_reducible exact Grows.refl _) | (with_reducible refine Grows.alloc ?_ _) | (with_reducible refine Grows.drew ?_) | (with_reducible refine Grows.ext ?_ _ _)))⟩
      case round =>
        obtain ⟨wb, j, rfl, hj, rfl, hG2⟩ := hrel
        have ca2 := (hG2.cellOf xa).trans ca
        have cb2 := (hG2.cellOf xb).trans cb
        by_cases hjl : j < p.length
        · have e3 : decide (j < p.length) = true := by simpa using hjl
          obtain ⟨b1, o1, rfl, hb1, hc1⟩ := Ja.out (by intro e; subst e; simp at hjl)
          obtain ⟨b2, o2, rfl, hb2, hc2⟩ := Jb.out (by intro e; subst e; simp at hjl)
          have d1 := ((HG.out.trans hG2).cellOf hb1).trans (hc1 j hjl)
          have d2 := ((HG.out.trans hG2).cellOf hb2).trans (hc2 j hjl)
          have x1 := Nat.lt_of_lt_of_le hb1 (HG.out.trans hG2).size
          have x2 := Nat.lt_of_lt_of_le hb2 (HG.out.trans hG2).size
          have ya := Nat.lt_of_lt_of_le xa hG2.size
          have yb := Nat.lt_of_lt_of_le xb hG2.size
          have HG2 := Lib.hid hG2
          generalize p[j]?.getD 0 = m at *
          have e4 : (m != m) = false := by simp
          clear hc1 hc2 hG2 ca cb xa xb
          go_wp2_with fail
          refine wp_region_grow (by kernel_rfl) (by kernel_rfl) ?_
          repeat (first | go_big_quiet_step ((fail)) | quiet_step ((fail)))
          refine wpQuiet_nil ?_
          rintro _ ⟨g135, rfl⟩
          go_wp2_with fail
          go_roundw
          case rel => exact ⟨_, j + 1, rfl, by omega, by go_num, HG2.out.trans (by repeat' (first | (with_reducible exact Grows.refl _) | (with_reducible refine Grows.alloc ?_ _) | (with_reducible refine Grows.drew ?_) | (with_reducible refine Grows.ext ?_ _ _)))⟩
          case measure => simp [intOf]; omega
        · have e3 : decide (j < p.length) = false := by simpa using hjl
          have HG2 := Lib.hid hG2
          clear hG2
          go_wp2_with fail
          go_roundw
          case rel => exact ⟨_, k + 1, rfl, by omega, by go_num, (HG.out.trans HG2.out).trans (by repeat' (first | (with_reducible exact Grows.refl _) | (with_reducible refine Grows.alloc ?_ _) | (with_reducible refine Grows.drew ?_) | (with_reducible refine Grows.ext ?_ _ _)))⟩
          case measure => simp [intOf]; omega
    · have e1 : decide (k < r.length) = false := by simpa using hlt
      go_wp2_with fail
      go_ret
      exact ⟨rfl, hG⟩
end Go.Proofs.YtobbphkfdhjmdaaDoor

namespace Go.Proofs.YtobbphkfdhjmdaaDoor
open Go.RowKit

theorem owns_grows {w w' : World} {base : Nat} {e : TypeId} {size : Nat} {v : Value} {n : Nat} {xs : List Value} (h : w.ownsRow base e size v n xs) (g : Grows w w') : w'.ownsRow base e size v n xs := by
  obtain ⟨hl, h | ⟨b, cap, cur, rfl, hb, hh, hc, hm, hs, ht⟩⟩ := h
  · exact ⟨hl, .inl h⟩
  · exact ⟨hl, .inr ⟨b, cap, cur, rfl, hb, (g.below.block b (Array.getElem?_eq_some_iff.1 hh).1).trans hh, hc, hm, hs, ht⟩⟩
theorem cells_at6 {W : World} {N : Nat} {vs : List Value} {t : TypeId} (hN : W.heap.size = N) : ∀ j u, vs[j]? = some u → (W.alloc (.cells vs.toArray t)).cell? ((⟨N, 0, none⟩ : Addr).add j) = some u := by
  intro j u hj
  subst hN
  rw [Addr.add_lit, Nat.zero_add]
  exact (cell_of_row _ _ j _ t (0, 0) (heap_alloc_new W _)).trans (by simpa using hj)
/-- A slice of drafts. -/
def DrfsIn (w : World) (oa : Option Addr) (len : Nat) : Prop := 0 < len → ∃ (bl off : Nat) (F : Nat → Drf), oa = some ⟨bl, off, none⟩ ∧ bl < w.heap.size ∧ ∀ i, i < len → (F i).Ok ∧ DrfAt w bl (off + i * 8) (F i)
theorem drf_pen {d : Drf} (h : d.Ok) : ∃ p : Pen, okPen p = true ∧ ∀ W, Calls Tryd.prog 16 #[.agg #[.int .u8 d.dA, .int .u8 d.dU, .int .u8 d.dW, .int .u8 d.dM, .int .u32 d.d0, .int .u32 d.d1, .int .u32 d.d2, .int .u32 d.d3]] W (Ret (actV p) W) := by
  obtain ⟨h0, h1, h2, h3, h4, h5, h6, h7⟩ := h
  exact dpen_pen _ _ _ _ _ _ _ _ h0 h1 h2 h3 h4 h5 h6 h7
theorem parse_text {r : List (List Int)} (h : okRow r = true) : parseS ⟨(rowT r).toArray⟩ = (r, 0) := by
  have h1 := pieces_total r h
  rw [join_pieces r (fun p hp => (okPart_iff.1 ((okRow_iff.1 h).2.2 p hp)).1)] at h1
  unfold parseS
  have e : (⟨(rowT r).toArray⟩ : ByteArray).size = (rowT r).length := by simp [ByteArray.size]
  rw [if_neg (by omega)]
  exact parse_row h
theorem own_at {w : World} {p : ActV} {g base : Nat} (hg : g = w.heap.size) (hb : base ≤ g) : (w.alloc (.cells #[.int .i64 p.kd, .int .i64 p.n, .int .i64 p.m, .int .i64 p.ck, .int .i64 p.cn, .string p.s] 26)).ownsRow base 26 6 (.slice (some ⟨g, 0, none⟩) 1 1) 1 (actsC [p]) := by
  subst hg
  exact OwnA.one (heap_alloc_new w _) hb
theorem row_len {r : List (List Int)} {w : World} {v : Value} (h : RowAt w v r) : ∃ a cap, v = .slice a r.length cap := by
  obtain ⟨a, cap, rfl, -, -⟩ := h
  exact ⟨a, cap, rfl⟩
theorem pens_len {l : List Pen} {w : World} {v : Value} (h : ActsAt w v (l.map actP)) : ∃ a cap, v = .slice a l.length cap := by
  obtain ⟨a, cap, rfl, -, -⟩ := h
  exact ⟨a, cap, by simp⟩
set_option maxRecDepth 100000 in
set_option maxHeartbeats 20000000 in
theorem back_true (f : Drf) (hf : f.Ok) (oa : Option Addr) (len cap : Nat) (w : World) (_hlc : len ≤ cap) (hlm : len ≤ 9223372036854775807) (hd : DrfsIn w oa len) (hg : GL w) (ht : GT w) :
    Calls Tryd.prog 8 #[.agg #[.int .u8 f.dA, .int .u8 f.dU, .int .u8 f.dW, .int .u8 f.dM, .int .u32 f.d0, .int .u32 f.d1, .int .u32 f.d2, .int .u32 f.d3], .slice oa len cap] w (Ret (.bool true) w) := by
  obtain ⟨i0, hi, hz0, hz1, hz2⟩ := info_parts infoAct
  obtain ⟨p0, hp0, hP0⟩ := drf_pen hf
  unfold actV at hP0
  have HP0 := Lib.hid hP0
  have HD := Lib.hid hd
  have HGL := Lib.hid hg
  have HGT := Lib.hid ht
  clear hP0 hd hg ht
  obtain ⟨fa, fu, fw, fm, f0, f1, f2, f3⟩ := f
  dsimp only at HP0 ⊢
  clear hf
  go_enter Tryd.func8, Tryd.ntmps8
  go_upto_region 4 with (first | (go_at_call 15; (with_reducible refine (works_true _ (HGL.out.grows ?hg1) (HGT.out.grows ?hg2)).mono ?hm1); (case hg1 => exact (by repeat' (first | (with_reducible exact Grows.refl _) | (with_reducible refine Grows.alloc ?_ _) | (with_reducible refine Grows.drew ?_) | (with_reducible refine Grows.ext ?_ _ _)))); (case hg2 => exact (by repeat' (first | (with_reducible exact Grows.refl _) | (with_reducible refine Grows.alloc ?_ _) | (with_reducible refine Grows.drew ?_) | (with_reducible refine Grows.ext ?_ _ _)))); rintro e w' ⟨rfl, h1, d1, rfl⟩) | (go_at_call 16; (with_reducible refine (HP0.out _).mono ?_); rintro e w' ⟨rfl, h2, d2, rfl⟩))
  have hN : w.heap.size + 1 + (h1.size + h2.size) = (ext (w.alloc (.cells #[.int .u8 fa, .int .u8 fu, .int .u8 fw, .int .u8 fm, .int .u32 f0, .int .u32 f1, .int .u32 f2, .int .u32 f3] 46)) (h1 ++ h2) d2).heap.size := by simp
  have hNb : w.heap.size ≤ w.heap.size + 1 + (h1.size + h2.size) := by omega
  generalize w.heap.size + 1 + (h1.size + h2.size) = N at *
  refine abs_worldM (fun W => Grows w W ∧ W.ownsRow w.heap.size 26 6 (.slice (some ⟨N, 0, none⟩) 1 1) 1 (actsC [actP p0])) ⟨(by repeat' (first | (with_reducible exact Grows.refl _) | (with_reducible refine Grows.alloc ?_ _) | (with_reducible refine Grows.drew ?_) | (with_reducible refine Grows.ext ?_ _ _))), own_at (p := actP p0) hN hNb⟩ ?_
  clear hN hNb
  rintro wa ⟨hG0, hO0⟩
  have HG0 := Lib.hid hG0
  have HO0 := Lib.hid hO0
  clear hG0 hO0 HP0
  go_wp2_with fail
  go_loopw [5, 6] (fun x i wr' => ∃ (wv : World) (k : Nat) (ps : List Pen), wv = wr' ∧ k ≤ 15 ∧ k ≤ len ∧ i = .int .i64 k ∧ Grows w wv ∧ ps.length = k + 1 ∧ (∀ p ∈ ps, okPen p = true) ∧ wv.ownsRow w.heap.size 26 6 x (k + 1) (actsC (ps.map actP))) (fun _ i _ => 15 - (intOf i).toNat)
  case atStart => exact ⟨_, 0, [p0], rfl, Nat.zero_le _, Nat.zero_le _, rfl, HG0.out, rfl, by simpa using hp0, HO0.out⟩
  clear HG0 HO0
  case round =>
    obtain ⟨wb, k, ps, rfl, hk, hkl, rfl, hG, hps, hok, hO⟩ := hrel
    by_cases hlt : k < 15 ∧ k < len
    · obtain ⟨l1, l2⟩ := hlt
      have e1 : decide (k < len) = true := by simpa using l2
      have e2 : decide (k < 15) = true := by simpa using l1
      obtain ⟨bl, off, F, rfl, hbl, hF⟩ := HD.out (by omega)
      obtain ⟨hFo, hFa⟩ := hF k l2
      obtain ⟨p, hp, hP⟩ := drf_pen hFo
      unfold actV at hP
      have HP := Lib.hid hP
      obtain ⟨t0, t1, t2, t3, t4, t5, t6, t7⟩ := hFa.grows hG
      have xb := Nat.lt_of_lt_of_le hbl hG.size
      have HG := Lib.hid hG
      have HO := Lib.hid hO
      have hsz := hO.lt
      have hws := hG.size
      clear hF hFo hFa hP hG hO
      generalize F k = d at *
      obtain ⟨da, du, dw, dm, q0, q1, q2, q3⟩ := d
      dsimp only at t0 t1 t2 t3 t4 t5 t6 t7 HP
      obtain ⟨pn, pm, pck, pcn⟩ := p
      dsimp only at HP
      go_wp2_with (first | (go_at_call 16; (with_reducible refine (HP.out _).mono ?_); rintro e w' ⟨rfl, h3, d3, rfl⟩) | (at_builtin; refine wpList_append_own _ rfl (.tmp 32) (.tmp 38) 33 rfl w.heap.size 26 i0 _ 6 56 Tryd.underlying33 hi hz0 hz1 hz2 rfl (by decide) _ _ _ rfl ((owns_grows HO.out (by repeat' (first | (with_reducible exact Grows.refl _) | (with_reducible refine Grows.alloc ?_ _) | (with_reducible refine Grows.drew ?_) | (with_reducible refine Grows.ext ?_ _ _)))).alloc _) ⟨wb.heap.size + h3.size, 0, none⟩ 1 1 [.int .i64 39, .int .i64 pn, .int .i64 pm, .int .i64 pck, .int .i64 pcn, .string ⟨#[]⟩] rfl rfl (cells_at6 (by simp)) (by simp [Value.oneCell']) (by unfold maxLen; omega) (by omega) (by simp; omega) ?_; intro v2 w1 hown' hgrow _))
      have hO2 : w1.ownsRow w.heap.size 26 6 v2 (k + 1 + 1) (actsC ((ps ++ [(⟨pn, pm, pck, pcn⟩ : Pen)]).map actP)) := by
        rw [List.map_append, List.map_singleton, actsC_snoc]
        exact hown'
      have hG2 : Grows w w1 := Grows.appended (HG.out.trans (by repeat' (first | (with_reducible exact Grows.refl _) | (with_reducible refine Grows.alloc ?_ _) | (with_reducible refine Grows.drew ?_) | (with_reducible refine Grows.ext ?_ _ _)))) hgrow (fun q e => (hsz q e).1)
      go_roundw
      case rel =>
        refine ⟨_, k + 1, ps ++ [(⟨pn, pm, pck, pcn⟩ : Pen)], rfl, by omega, by omega, by go_num, hG2, by simp [hps], fun q hq => ?_, hO2⟩
        rcases List.mem_append.1 hq with hq | hq
        · exact hok q hq
        · obtain rfl : q = ⟨pn, pm, pck, pcn⟩ := by simpa using hq
          exact hp
      case measure => simp [intOf]; omega
    · have hA : ActsAt wb _ (ps.map actP) := OwnA.at_ (base := w.heap.size) (by unfold OwnA; rw [List.length_map, hps]; exact hO)
      obtain ⟨a5, c5, hx5⟩ := pens_len hA
      subst hx5
      have hle : ps.length ≤ 16 := by omega
      have hne : ps ≠ [] := by intro e; subst e; simp at hps
      have hrok := told_okRow hok hle
      have hro := pensOf_told hok hne hle
      have hrl : (ps.map toldP).length = ps.length := by simp
      have HPm := Lib.hid (params_ok _ ps wb hA hok hle (HGL.out.grows hG))
      generalize hr : ps.map toldP = r at *
      have k3 := (okRow_iff.1 hrok).2.2
      have hpl : ∀ p ∈ r, p.length ≤ 100000 := fun p hp => by have := (okPart_iff.1 (k3 p hp)).2.1; omega
      have hpe : pensErr r = 0 := by simp [pensErr, hrok]
      have HN := Lib.hid fun x W (hx : RowAt W x r) (hW : Grows w W) => sgrPens_any x r (by omega) hpl W hx (HGL.out.grows hW)
      rw [hro, hpe] at HN
      have HPr := Lib.hid fun x W (hx : RowAt W x r) (hW : Grows w W) => print_any x r (by omega) hpl W hx (HGT.out.grows hW)
      rw [hpe, show printT r = rowT r by simp [printT, hrok]] at HPr
      have HPa := Lib.hid fun W => parse_any ⟨(rowT r).toArray⟩ W
      rw [parse_text hrok] at HPa
      unfold StepPost at HPa
      have HS := Lib.hid fun x W (hx : ActsAt W x (ps.map actP)) (hW : Grows wb W) => same_all x (.slice a5 ps.length c5) (ps.map actP) (ps.map actP) (by simp; omega) (by simp; omega) W hx (hA.grows hW)
      rw [sameL_refl] at HS
      have HR := Lib.hid fun x y W (hx : RowAt W x r) (hy : RowAt W y r) => same05 x y r W (by omega) hpl hx hy
      have HG := Lib.hid hG
      have e1 : decide (k < len) = true ∧ decide (k < 15) = false ∨ decide (k < len) = false := by
        by_cases l2 : k < len
        · exact .inl ⟨by simpa using l2, by simp; omega⟩
        · exact .inr (by simpa using l2)
      clear hA hne hrok hro k3 hpl hpe hO hok hG hle hr hps
      rcases e1 with ⟨e1, e2⟩ | e1
      · obtain rfl : k = 15 := by simp at e2; omega
        go_wp2_with (first | (go_at_call 13; (with_reducible refine HPm.out.mono ?_); rintro e w2 ⟨x2, rfl, hx2, hg2⟩; obtain ⟨a6, c6, rfl⟩ := row_len hx2; rw [hrl] at hx2; have hV2 : Grows wb w2 := hg2; have hW2 : Grows w w2 := HG.out.trans hg2) | (go_at_call 14; (with_reducible refine (HN.out _ w2 hx2 hW2).mono ?_); rintro e w3 ⟨x3, rfl, hx3, hg3⟩) | (go_at_call 25; (with_reducible refine (HPr.out _ w3 (hx2.grows hg3) (hW2.trans hg3)).mono ?_); rintro e w' ⟨rfl, h9, d9, rfl⟩) | (go_at_call 26; (with_reducible refine (HPa.out (ext w3 h9 d9)).mono ?_); rintro e w4 ⟨x4, rfl, hx4, hg4⟩; have hV4 : Grows w2 w4 := hg3.trans (Grows.trans (by repeat' (first | (with_reducible exact Grows.refl _) | (with_reducible refine Grows.alloc ?_ _) | (with_reducible refine Grows.drew ?_) | (with_reducible refine Grows.ext ?_ _ _))) hg4)) | (go_at_call 14; (with_reducible refine (HN.out _ w4 hx4 (hW2.trans hV4)).mono ?_); rintro e w5 ⟨x5, rfl, hx5, hg5⟩; have hV5 : Grows w3 w5 := (Grows.trans (by repeat' (first | (with_reducible exact Grows.refl _) | (with_reducible refine Grows.alloc ?_ _) | (with_reducible refine Grows.drew ?_) | (with_reducible refine Grows.ext ?_ _ _))) hg4).trans hg5) | (go_at_call 23; (with_reducible refine (HS.out x3 w5 (hx3.grows hV5) (hV2.trans (hg3.trans hV5))).mono ?_); rintro e w' ⟨rfl, h6, d6, rfl⟩) | (go_at_call 23; (with_reducible refine (HS.out x5 (ext w5 h6 d6) (hx5.grows (by repeat' (first | (with_reducible exact Grows.refl _) | (with_reducible refine Grows.alloc ?_ _) | (with_reducible refine Grows.drew ?_) | (with_reducible refine Grows.ext ?_ _ _)))) ((hV2.trans (hg3.trans hV5)).trans (by repeat' (first | (with_reducible exact Grows.refl _) | (with_reducible refine Grows.alloc ?_ _) | (with_reducible refine Grows.drew ?_) | (with_reducible refine Grows.ext ?_ _ _))))).mono ?_); rintro e w' ⟨rfl, h7, d7, rfl⟩) | (go_at_call 17; (with_reducible refine (HR.out _ x4 _ (hx2.grows ((hV4.trans hg5).trans (by repeat' (first | (with_reducible exact Grows.refl _) | (with_reducible refine Grows.alloc ?_ _) | (with_reducible refine Grows.drew ?_) | (with_reducible refine Grows.ext ?_ _ _))))) (hx4.grows (hg5.trans (by repeat' (first | (with_reducible exact Grows.refl _) | (with_reducible refine Grows.alloc ?_ _) | (with_reducible refine Grows.drew ?_) | (with_reducible refine Grows.ext ?_ _ _)))))).mono ?_); rintro e w' ⟨rfl, h8, d8, rfl⟩))
        all_goals go_returns
        all_goals exact ⟨rfl, ((hW2.trans hV4).trans hg5).trans (by repeat' (first | (with_reducible exact Grows.refl _) | (with_reducible refine Grows.alloc ?_ _) | (with_reducible refine Grows.drew ?_) | (with_reducible refine Grows.ext ?_ _ _)))⟩
      · go_wp2_with (first | (go_at_call 13; (with_reducible refine HPm.out.mono ?_); rintro e w2 ⟨x2, rfl, hx2, hg2⟩; obtain ⟨a6, c6, rfl⟩ := row_len hx2; rw [hrl] at hx2; have hV2 : Grows wb w2 := hg2; have hW2 : Grows w w2 := HG.out.trans hg2) | (go_at_call 14; (with_reducible refine (HN.out _ w2 hx2 hW2).mono ?_); rintro e w3 ⟨x3, rfl, hx3, hg3⟩) | (go_at_call 25; (with_reducible refine (HPr.out _ w3 (hx2.grows hg3) (hW2.trans hg3)).mono ?_); rintro e w' ⟨rfl, h9, d9, rfl⟩) | (go_at_call 26; (with_reducible refine (HPa.out (ext w3 h9 d9)).mono ?_); rintro e w4 ⟨x4, rfl, hx4, hg4⟩; have hV4 : Grows w2 w4 := hg3.trans (Grows.trans (by repeat' (first | (with_reducible exact Grows.refl _) | (with_reducible refine Grows.alloc ?_ _) | (with_reducible refine Grows.drew ?_) | (with_reducible refine Grows.ext ?_ _ _))) hg4)) | (go_at_call 14; (with_reducible refine (HN.out _ w4 hx4 (hW2.trans hV4)).mono ?_); rintro e w5 ⟨x5, rfl, hx5, hg5⟩; have hV5 : Grows w3 w5 := (Grows.trans (by repeat' (first | (with_reducible exact Grows.refl _) | (with_reducible refine Grows.alloc ?_ _) | (with_reducible refine Grows.drew ?_) | (with_reducible refine Grows.ext ?_ _ _))) hg4).trans hg5) | (go_at_call 23; (with_reducible refine (HS.out x3 w5 (hx3.grows hV5) (hV2.trans (hg3.trans hV5))).mono ?_); rintro e w' ⟨rfl, h6, d6, rfl⟩) | (go_at_call 23; (with_reducible refine (HS.out x5 (ext w5 h6 d6) (hx5.grows (by repeat' (first | (with_reducible exact Grows.refl _) | (with_reducible refine Grows.alloc ?_ _) | (with_reducible refine Grows.drew ?_) | (with_reducible refine Grows.ext ?_ _ _)))) ((hV2.trans (hg3.trans hV5)).trans (by repeat' (first | (with_reducible exact Grows.refl _) | (with_reducible refine Grows.alloc ?_ _) | (with_reducible refine Grows.drew ?_) | (with_reducible refine Grows.ext ?_ _ _))))).mono ?_); rintro e w' ⟨rfl, h7, d7, rfl⟩) | (go_at_call 17; (with_reducible refine (HR.out _ x4 _ (hx2.grows ((hV4.trans hg5).trans (by repeat' (first | (with_reducible exact Grows.refl _) | (with_reducible refine Grows.alloc ?_ _) | (with_reducible refine Grows.drew ?_) | (with_reducible refine Grows.ext ?_ _ _))))) (hx4.grows (hg5.trans (by repeat' (first | (with_reducible exact Grows.refl _) | (with_reducible refine Grows.alloc ?_ _) | (with_reducible refine Grows.drew ?_) | (with_reducible refine Grows.ext ?_ _ _)))))).mono ?_); rintro e w' ⟨rfl, h8, d8, rfl⟩))
        go_returns
        exact ⟨rfl, ((hW2.trans hV4).trans hg5).trans (by repeat' (first | (with_reducible exact Grows.refl _) | (with_reducible refine Grows.alloc ?_ _) | (with_reducible refine Grows.drew ?_) | (with_reducible refine Grows.ext ?_ _ _)))⟩
end Go.Proofs.YtobbphkfdhjmdaaDoor

namespace Go.Proofs.YtobbphkfdhjmdaaDoor
open Go.RowKit

set_option maxRecDepth 100000 in
theorem drfs_of2 {H : Type} {enc : TypeId × Value → H} {w : World} {v : Value} {d : DataW H} {p : List MemPlace} {sp : Nat → Bool} {held : Bool} {r : Reach} {b : Nat} (hv : Value.okWide Tryd.prog w r b 40 v) (h : DataW.Trod enc Tryd.prog w 0 sp held 40 v d p) : ∃ oa n c, v = .slice oa n c ∧ n ≤ c ∧ (n ≤ 9223372036854775807 ∧ DrfsIn w oa n) := by
  rcases open_drafts hv h with ⟨oa, c, rfl⟩ | ⟨bl, off, n, c, F, rfl, -, hc, hn, hb, hF, hA⟩
  · exact ⟨oa, 0, c, rfl, Nat.zero_le _, Nat.zero_le _, fun h => absurd h (Nat.lt_irrefl 0)⟩
  · exact ⟨_, n, c, rfl, hc, hn, fun _ => ⟨bl, off, F, rfl, hb, fun i hi => ⟨hF i hi, hA i hi⟩⟩⟩
end Go.Proofs.YtobbphkfdhjmdaaDoor

