/-
  Walks: the runs of the examples.
-/
import Derived.Test.YtafokiobbceibaaRows
import Derived.Test.YtafokiobbceibaaLt
import Derived.Test.YtafokiobbceibaaDefs
import Derived.Test.YtafokiobbceibaaBits
import Derived.Test.YtafokiobbceibaaMaps
import Derived.Test.YtafokiobbceibaaW5
import Derived.Test.YtafokiobbceibaaW7
import Derived.Test.YtafokiobbceibaaRun
import Derived.Test.YtafokiobbceibaaW8
import Derived.Test.YtafokiobbceibaaW9
import Derived.Test.YtafokiobbceibaaW10
import Derived.WalkKit
import Derived.WalkSpells
import Derived.WalkLawsBesides
import Derived.Handy
import Derived.Laws.EntriesVeiled
import Derived.Lib.Hide
import Derived.Deep.Light
import Derived.Deep.LoopGhost
import Derived.BigGuardPart
import Derived.BigQuiet
import Derived.Deep.QuietTactic
import Derived.Deep.RegionHeld3
import Derived.Test.YtafokiobbceibaaReg
import Derived.Test.YtafokiobbceibaaReg3
import Derived.Test.YtafokiobbceibaaReg4
namespace Go.Proofs.Ytafokiobbceibaa
open Go.RowKit


theorem pensIn1 {w : World} {B : Nat} {p : Pen} (hm : In64 p.m) (c0 : w.cell? ⟨B, 0, none⟩ = some (.int .i64 p.kd)) (c1 : w.cell? ⟨B, 1, none⟩ = some (.int .i64 p.n)) (c2 : w.cell? ⟨B, 2, none⟩ = some (.int .i64 p.m)) (c3 : w.cell? ⟨B, 3, none⟩ = some (.int .i64 p.ck)) (c4 : w.cell? ⟨B, 4, none⟩ = some (.int .i64 p.cn)) (c5 : w.cell? ⟨B, 5, none⟩ = some (.string p.s)) : PensIn w B 0 [p] := by
  intro i q h
  match i, h with
  | 0, h => cases h; exact ⟨hm, c0, c1, c2, c3, c4, c5⟩
  | i + 1, h => cases h
theorem pensIn3 {w : World} {B : Nat} {p q r : Pen} (hp : In64 p.m) (hq : In64 q.m) (hr : In64 r.m)
    (c0 : w.cell? ⟨B, 0, none⟩ = some (.int .i64 p.kd)) (c1 : w.cell? ⟨B, 1, none⟩ = some (.int .i64 p.n)) (c2 : w.cell? ⟨B, 2, none⟩ = some (.int .i64 p.m)) (c3 : w.cell? ⟨B, 3, none⟩ = some (.int .i64 p.ck)) (c4 : w.cell? ⟨B, 4, none⟩ = some (.int .i64 p.cn)) (c5 : w.cell? ⟨B, 5, none⟩ = some (.string p.s))
    (d0 : w.cell? ⟨B, 6, none⟩ = some (.int .i64 q.kd)) (d1 : w.cell? ⟨B, 7, none⟩ = some (.int .i64 q.n)) (d2 : w.cell? ⟨B, 8, none⟩ = some (.int .i64 q.m)) (d3 : w.cell? ⟨B, 9, none⟩ = some (.int .i64 q.ck)) (d4 : w.cell? ⟨B, 10, none⟩ = some (.int .i64 q.cn)) (d5 : w.cell? ⟨B, 11, none⟩ = some (.string q.s))
    (e0 : w.cell? ⟨B, 12, none⟩ = some (.int .i64 r.kd)) (e1 : w.cell? ⟨B, 13, none⟩ = some (.int .i64 r.n)) (e2 : w.cell? ⟨B, 14, none⟩ = some (.int .i64 r.m)) (e3 : w.cell? ⟨B, 15, none⟩ = some (.int .i64 r.ck)) (e4 : w.cell? ⟨B, 16, none⟩ = some (.int .i64 r.cn)) (e5 : w.cell? ⟨B, 17, none⟩ = some (.string r.s)) : PensIn w B 0 [p, q, r] := by
  intro i s h
  match i, h with
  | 0, h => cases h; exact ⟨hp, c0, c1, c2, c3, c4, c5⟩
  | 1, h => cases h; exact ⟨hq, d0, d1, d2, d3, d4, d5⟩
  | 2, h => cases h; exact ⟨hr, e0, e1, e2, e3, e4, e5⟩
  | i + 3, h => cases h
theorem PensIn.grows {w w' : World} {B off : Nat} {l : List Pen} (h : PensIn w B off l) (hb : B < w.heap.size) (g : Grows w w') : PensIn w' B off l := by
  intro i p hp
  obtain ⟨h0, h1, h2, h3, h4, h5, h6⟩ := h i p hp
  exact ⟨h0, (Grows.cell g _ _ hb).1.trans h1, (Grows.cell g _ _ hb).1.trans h2, (Grows.cell g _ _ hb).1.trans h3, (Grows.cell g _ _ hb).1.trans h4, (Grows.cell g _ _ hb).1.trans h5, (Grows.cell g _ _ hb).1.trans h6⟩
/-- makes, where the run is known. -/
theorem makes_l (a u fk fn bk bn lk ln a' u' fk' fn' bk' bn' lk' ln' : Int) (hi : In64 a) (l : List Pen) (n : Nat) (hn : n = l.length) (B cap : Nat) (w : World) (hb : B < w.heap.size) (hp : PensIn w B 0 l) (hl : l.length ≤ 9223372036854775807) (hv : runV ⟨a, u, fk, fn, bk, bn, lk, ln⟩ l = .tuple #[.agg #[.int .i64 a', .int .i64 u', .int .i64 fk', .int .i64 fn', .int .i64 bk', .int .i64 bn', .int .i64 lk', .int .i64 ln'], .int .i64 0]) :
    Calls Try.prog 22 #[.agg #[.int .i64 a, .int .i64 u, .int .i64 fk, .int .i64 fn, .int .i64 bk, .int .i64 bn, .int .i64 lk, .int .i64 ln], .agg #[.int .i64 a', .int .i64 u', .int .i64 fk', .int .i64 fn', .int .i64 bk', .int .i64 bn', .int .i64 lk', .int .i64 ln'], .slice (some ⟨B, 0, none⟩) n cap] w (Ret (.bool true) w) := by
  subst hn
  refine makes_yes a u fk fn bk bn lk ln a' u' fk' fn' bk' bn' lk' ln' _ _ _ w (fun W g => ?_)
  rw [← hv]
  exact run_any a u fk fn bk bn lk ln hi l B 0 cap W hl (by have := (Grows.cell g B 0 hb).2; exact this) (hp.grows hb g)

theorem runs_1 : runV ⟨0, 0, 0, 0, 0, 0, 0, 0⟩ [⟨39, 1, 1, 0, 0, ⟨#[]⟩⟩, ⟨39, 3, 3, 0, 0, ⟨#[]⟩⟩, ⟨39, 4, 0, 1, 1, ⟨#[]⟩⟩] = .tuple #[.agg #[.int .i64 1, .int .i64 3, .int .i64 1, .int .i64 1, .int .i64 0, .int .i64 0, .int .i64 0, .int .i64 0], .int .i64 0] := by kernel_rfl
theorem mk1 (B : Nat) (w : World) (hb : B < w.heap.size) (c0 : w.cell? ⟨B, 0, none⟩ = some (.int .i64 39)) (c1 : w.cell? ⟨B, 1, none⟩ = some (.int .i64 1)) (c2 : w.cell? ⟨B, 2, none⟩ = some (.int .i64 1)) (c3 : w.cell? ⟨B, 3, none⟩ = some (.int .i64 0)) (c4 : w.cell? ⟨B, 4, none⟩ = some (.int .i64 0)) (c5 : w.cell? ⟨B, 5, none⟩ = some (.string ⟨#[]⟩)) (c6 : w.cell? ⟨B, 6, none⟩ = some (.int .i64 39)) (c7 : w.cell? ⟨B, 7, none⟩ = some (.int .i64 3)) (c8 : w.cell? ⟨B, 8, none⟩ = some (.int .i64 3)) (c9 : w.cell? ⟨B, 9, none⟩ = some (.int .i64 0)) (c10 : w.cell? ⟨B, 10, none⟩ = some (.int .i64 0)) (c11 : w.cell? ⟨B, 11, none⟩ = some (.string ⟨#[]⟩)) (c12 : w.cell? ⟨B, 12, none⟩ = some (.int .i64 39)) (c13 : w.cell? ⟨B, 13, none⟩ = some (.int .i64 4)) (c14 : w.cell? ⟨B, 14, none⟩ = some (.int .i64 0)) (c15 : w.cell? ⟨B, 15, none⟩ = some (.int .i64 1)) (c16 : w.cell? ⟨B, 16, none⟩ = some (.int .i64 1)) (c17 : w.cell? ⟨B, 17, none⟩ = some (.string ⟨#[]⟩)) : Calls Try.prog 22 #[.agg #[.int .i64 0, .int .i64 0, .int .i64 0, .int .i64 0, .int .i64 0, .int .i64 0, .int .i64 0, .int .i64 0], .agg #[.int .i64 1, .int .i64 3, .int .i64 1, .int .i64 1, .int .i64 0, .int .i64 0, .int .i64 0, .int .i64 0], .slice (some ⟨B, 0, none⟩) 3 3] w (Ret (.bool true) w) :=
  makes_l 0 0 0 0 0 0 0 0 1 3 1 1 0 0 0 0 (by unfold In64; omega) [⟨39, 1, 1, 0, 0, ⟨#[]⟩⟩, ⟨39, 3, 3, 0, 0, ⟨#[]⟩⟩, ⟨39, 4, 0, 1, 1, ⟨#[]⟩⟩] 3 rfl B 3 w hb (pensIn3 (by unfold In64; simp) (by unfold In64; simp) (by unfold In64; simp) c0 c1 c2 c3 c4 c5 c6 c7 c8 c9 c10 c11 c12 c13 c14 c15 c16 c17) (by simp) runs_1

theorem runs_2 : runV ⟨1, 3, 1, 1, 0, 0, 0, 0⟩ [⟨39, 2, 3, 0, 0, ⟨#[]⟩⟩] = .tuple #[.agg #[.int .i64 0, .int .i64 3, .int .i64 1, .int .i64 1, .int .i64 0, .int .i64 0, .int .i64 0, .int .i64 0], .int .i64 0] := by kernel_rfl
theorem mk2 (B : Nat) (w : World) (hb : B < w.heap.size) (c0 : w.cell? ⟨B, 0, none⟩ = some (.int .i64 39)) (c1 : w.cell? ⟨B, 1, none⟩ = some (.int .i64 2)) (c2 : w.cell? ⟨B, 2, none⟩ = some (.int .i64 3)) (c3 : w.cell? ⟨B, 3, none⟩ = some (.int .i64 0)) (c4 : w.cell? ⟨B, 4, none⟩ = some (.int .i64 0)) (c5 : w.cell? ⟨B, 5, none⟩ = some (.string ⟨#[]⟩)) : Calls Try.prog 22 #[.agg #[.int .i64 1, .int .i64 3, .int .i64 1, .int .i64 1, .int .i64 0, .int .i64 0, .int .i64 0, .int .i64 0], .agg #[.int .i64 0, .int .i64 3, .int .i64 1, .int .i64 1, .int .i64 0, .int .i64 0, .int .i64 0, .int .i64 0], .slice (some ⟨B, 0, none⟩) 1 1] w (Ret (.bool true) w) :=
  makes_l 1 3 1 1 0 0 0 0 0 3 1 1 0 0 0 0 (by unfold In64; omega) [⟨39, 2, 3, 0, 0, ⟨#[]⟩⟩] 1 rfl B 1 w hb (pensIn1 (by unfold In64; simp) c0 c1 c2 c3 c4 c5) (by simp) runs_2

theorem runs_3 : runV ⟨0, 3, 1, 1, 0, 0, 0, 0⟩ [⟨39, 0, 0, 0, 0, ⟨#[]⟩⟩] = .tuple #[.agg #[.int .i64 0, .int .i64 0, .int .i64 0, .int .i64 0, .int .i64 0, .int .i64 0, .int .i64 0, .int .i64 0], .int .i64 0] := by kernel_rfl
theorem mk3 (B : Nat) (w : World) (hb : B < w.heap.size) (c0 : w.cell? ⟨B, 0, none⟩ = some (.int .i64 39)) (c1 : w.cell? ⟨B, 1, none⟩ = some (.int .i64 0)) (c2 : w.cell? ⟨B, 2, none⟩ = some (.int .i64 0)) (c3 : w.cell? ⟨B, 3, none⟩ = some (.int .i64 0)) (c4 : w.cell? ⟨B, 4, none⟩ = some (.int .i64 0)) (c5 : w.cell? ⟨B, 5, none⟩ = some (.string ⟨#[]⟩)) : Calls Try.prog 22 #[.agg #[.int .i64 0, .int .i64 3, .int .i64 1, .int .i64 1, .int .i64 0, .int .i64 0, .int .i64 0, .int .i64 0], .agg #[.int .i64 0, .int .i64 0, .int .i64 0, .int .i64 0, .int .i64 0, .int .i64 0, .int .i64 0, .int .i64 0], .slice (some ⟨B, 0, none⟩) 1 1] w (Ret (.bool true) w) :=
  makes_l 0 3 1 1 0 0 0 0 0 0 0 0 0 0 0 0 (by unfold In64; omega) [⟨39, 0, 0, 0, 0, ⟨#[]⟩⟩] 1 rfl B 1 w hb (pensIn1 (by unfold In64; simp) c0 c1 c2 c3 c4 c5) (by simp) runs_3
end Go.Proofs.Ytafokiobbceibaa
