/-
  Rows of pens that the call itself made.
-/
import Derived.Test.YtafokiobbceibaaRows
import Derived.Test.YtafokiobbceibaaLt
import Derived.Test.YtafokiobbceibaaDefs
import Derived.Test.YtafokiobbceibaaBits
import Derived.Test.YtafokiobbceibaaMaps
import Derived.Test.YtafokiobbceibaaW5
import Derived.Test.YtafokiobbceibaaW7
import Derived.Test.YtafokiobbceibaaRun
import Derived.Test.YtafokiobbceibaaW8
import Derived.Test.YtafokiobbceibaaW9
import Derived.WalkKit
import Derived.OwnWalk
import Derived.Deep.Fields
import Derived.WalkSpells
import Derived.WalkLawsBesides
import Derived.Handy
import Derived.Laws.EntriesVeiled
import Derived.Lib.Hide
import Derived.Deep.Light
import Derived.Deep.LoopGhost
import Derived.BigGuardPart
import Derived.BigQuiet
import Derived.Deep.QuietTactic
import Derived.Deep.RegionHeld3
import Derived.Test.YtafokiobbceibaaReg
import Derived.Test.YtafokiobbceibaaReg3
import Derived.Test.YtafokiobbceibaaReg4
namespace Go.Proofs.Ytafokiobbceibaa
open Go.RowKit


def penC (p : Pen) : List Value := [.int .i64 p.kd, .int .i64 p.n, .int .i64 p.m, .int .i64 p.ck, .int .i64 p.cn, .string p.s]
def pensC (l : List Pen) : List Value := l.flatMap penC
theorem pensC_len (l : List Pen) : (pensC l).length = l.length * 6 := by
  induction l with
  | nil => rfl
  | cons p l ih =>
    show (penC p ++ pensC l).length = _
    rw [List.length_append, ih]
    simp [penC]
    omega
theorem pensC_get : ∀ (l : List Pen) (i j : Nat) (p : Pen), l[i]? = some p → j < 6 → (pensC l)[i * 6 + j]? = (penC p)[j]?
  | [], i, j, p, h, _ => by simp at h
  | q :: l, 0, j, p, h, hj => by
    simp at h
    subst h
    show (penC q ++ pensC l)[0 * 6 + j]? = _
    rw [List.getElem?_append_left (by simp [penC]; omega)]
    simp
  | q :: l, i + 1, j, p, h, hj => by
    show (penC q ++ pensC l)[(i + 1) * 6 + j]? = _
    rw [List.getElem?_append_right (by simp [penC]; omega)]
    have := pensC_get l i j p (by simpa using h) hj
    rw [← this]
    congr 1
    simp [penC]
    omega
theorem pensC_snoc (l : List Pen) (p : Pen) : pensC (l ++ [p]) = pensC l ++ penC p := by simp [pensC]
/-- The slice v holds the pens l, in a block from base on. -/
def OwnP (w : World) (base : Nat) (v : Value) (l : List Pen) : Prop := w.ownsRow base 27 6 v l.length (pensC l)
theorem OwnP.grows {w w' : World} {base : Nat} {v : Value} {l : List Pen} (h : OwnP w base v l) (g : Grows w w') : OwnP w' base v l := by
  obtain ⟨hl, h | ⟨b, cap, cur, rfl, hb, hh, hc, hm, hs, ht⟩⟩ := h
  · exact ⟨hl, .inl h⟩
  · exact ⟨hl, .inr ⟨b, cap, cur, rfl, hb, (g.below.block b (Array.getElem?_eq_some_iff.1 hh).1).trans hh, hc, hm, hs, ht⟩⟩
theorem OwnP.nil (w : World) (base : Nat) : OwnP w base (.slice none 0 0) [] := World.ownsRow_nil _ _ _ _
/-- A pen's own block: one pen. -/
theorem OwnP.one {w : World} {g : Nat} {p : Pen} {base : Nat} (h : w.heap[g]? = some (.cells #[.int .i64 p.kd, .int .i64 p.n, .int .i64 p.m, .int .i64 p.ck, .int .i64 p.cn, .string p.s] 27 (0, 0))) (hb : base ≤ g) : OwnP w base (.slice (some ⟨g, 0, none⟩) 1 1) [p] :=
  ⟨rfl, .inr ⟨g, 1, _, rfl, hb, h, Nat.le_refl _, by unfold maxLen; omega, rfl, rfl⟩⟩
theorem OwnP.at {w : World} {base : Nat} {v : Value} {l : List Pen} (h : OwnP w base v l) (hl : l ≠ []) : ∃ g cap, v = .slice (some ⟨g, 0, none⟩) l.length cap ∧ l.length ≤ cap ∧ base ≤ g ∧ g < w.heap.size ∧ ((∀ p ∈ l, In64 p.m) → PensIn w g 0 l) ∧ (∀ j, w.frozen? ⟨g, j, none⟩ = false) := by
  obtain ⟨hlen, h' | ⟨g, cap, cur, rfl, hb, hh, hc, hm, hs, ht⟩⟩ := id h
  · exact absurd (List.length_eq_zero_iff.1 h'.2) hl
  · refine ⟨g, cap, rfl, hc, hb, (Array.getElem?_eq_some_iff.1 hh).1, fun hm i p hp => ?_, fun j => frozen_of_row w g j cur 27 hh⟩
    have hx := World.ownsRow.cells h (g := g) rfl
    have hat : ∀ j v, j < 6 → (penC p)[j]? = some v → w.cell? ⟨g, 0 + i * 6 + j, none⟩ = some v := fun j v hj hv => by
      have := hx (i * 6 + j) v ((pensC_get l i j p hp hj).trans hv)
      rw [Addr.add_lit] at this
      simpa only [Nat.zero_add] using this
    exact ⟨hm p (List.mem_of_getElem? hp), hat 0 _ (by omega) rfl, hat 1 _ (by omega) rfl, hat 2 _ (by omega) rfl, hat 3 _ (by omega) rfl, hat 4 _ (by omega) rfl, hat 5 _ (by omega) rfl⟩
theorem OwnP.snoc {w : World} {base : Nat} {v : Value} {l : List Pen} {p : Pen} (h : w.ownsRow base 27 6 v (l.length + 1) (pensC l ++ penC p)) : OwnP w base v (l ++ [p]) := by
  unfold OwnP
  rw [pensC_snoc, List.length_append]
  exact h
theorem Grows.appended {w0 w w1 : World} {row : Option Nat} (g : Grows w0 w) (h : w.grownBy w1 row) (hr : ∀ k, row = some k → w0.heap.size ≤ k) : Grows w0 w1 := by
  have b := g.below
  refine Grows.of_below ⟨h.os.trans b.os, h.tape.trans b.tape, h.output.trans b.output, Nat.le_trans b.size h.size, fun k hk => (h.block k (Nat.lt_of_lt_of_le hk b.size) ?_).trans (b.block k hk)⟩
  intro e
  have := hr k e.symm
  omega
/-- What the style's Run makes of such a row. -/
theorem run_own (a u fk fn bk bn lk ln : Int) (hi : In64 a) (l : List Pen) (hm : ∀ p ∈ l, In64 p.m) (hl : l.length ≤ 9223372036854775807) (base : Nat) (v : Value) (w : World) (h : OwnP w base v l) : Calls Try.prog 17 #[.agg #[.int .i64 a, .int .i64 u, .int .i64 fk, .int .i64 fn, .int .i64 bk, .int .i64 bn, .int .i64 lk, .int .i64 ln], v] w (Ret (runV ⟨a, u, fk, fn, bk, bn, lk, ln⟩ l) w) := by
  by_cases hn : l = []
  · subst hn
    rcases h.2 with ⟨rfl, -⟩ | ⟨g, cap, cur, rfl, -⟩
    · exact run_nil a u fk fn bk bn lk ln hi none 0 w
    · exact run_nil a u fk fn bk bn lk ln hi _ cap w
  · obtain ⟨g, cap, rfl, -, -, hg, hp, -⟩ := h.at hn
    exact run_any a u fk fn bk bn lk ln hi l g 0 cap w hl hg (hp hm)
/-- What it makes of the row without its first. -/
theorem run_tail (a u fk fn bk bn lk ln : Int) (hi : In64 a) (p : Pen) (l : List Pen) (_hm : ∀ p ∈ l, In64 p.m) (hl : l.length ≤ 9223372036854775807) (g cap : Nat) (w : World) (hg : g < w.heap.size) (hp : In64 p.m → PensIn w g 0 (p :: l)) (hpm : In64 p.m) : Calls Try.prog 17 #[.agg #[.int .i64 a, .int .i64 u, .int .i64 fk, .int .i64 fn, .int .i64 bk, .int .i64 bn, .int .i64 lk, .int .i64 ln], .slice (some ⟨g, 6, none⟩) l.length cap] w (Ret (runV ⟨a, u, fk, fn, bk, bn, lk, ln⟩ l) w) := by
  refine run_any a u fk fn bk bn lk ln hi l g 6 cap w hl hg fun i q hq => ?_
  have := hp hpm (i + 1) q (by simpa using hq)
  have e : 0 + (i + 1) * 6 = 6 + i * 6 := by omega
  rw [e] at this
  exact this
end Go.Proofs.Ytafokiobbceibaa
