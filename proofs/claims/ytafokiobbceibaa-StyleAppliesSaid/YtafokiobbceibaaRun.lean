/-
  A run of pens: plain definitions, and what of a world stays.
-/
import Derived.Test.YtafokiobbceibaaRows
import Derived.Test.YtafokiobbceibaaLt
import Derived.Test.YtafokiobbceibaaDefs
import Derived.Test.YtafokiobbceibaaBits
import Derived.Test.YtafokiobbceibaaMaps
import Derived.Test.YtafokiobbceibaaW2
import Derived.Test.YtafokiobbceibaaW3
import Derived.Test.YtafokiobbceibaaW4
import Derived.Test.YtafokiobbceibaaW5
import Derived.Test.YtafokiobbceibaaW7
import Derived.WalkKit
import Derived.WalkSpells
import Derived.WalkLawsBesides
import Derived.Handy
import Derived.Deep.Heap
import Derived.Laws.EntriesVeiled
import Derived.Lib.Hide
import Derived.Deep.Light
import Derived.Deep.LoopGhost
import Derived.BigGuardPart
import Derived.BigQuiet
import Derived.Deep.QuietTactic
import Derived.Deep.RegionHeld3
import Derived.Test.YtafokiobbceibaaReg
import Derived.Test.YtafokiobbceibaaReg3
import Derived.Test.YtafokiobbceibaaReg4
namespace Go.Proofs.Ytafokiobbceibaa
open Go.RowKit


structure Pen where
  kd : Int
  n : Int
  m : Int
  ck : Int
  cn : Int
  s : ByteArray
structure Sty where
  a : Int
  u : Int
  fk : Int
  fn : Int
  bk : Int
  bn : Int
  lk : Int
  ln : Int
def styV (x : Sty) : Value := .agg #[.int .i64 x.a, .int .i64 x.u, .int .i64 x.fk, .int .i64 x.fn, .int .i64 x.bk, .int .i64 x.bn, .int .i64 x.lk, .int .i64 x.ln]
def okP (p : Pen) : Bool := pnB p.kd p.n p.m p.ck p.cn p.s
def apS (x : Sty) (p : Pen) : Sty :=
  if p.n = 0 then ⟨0, 0, 0, 0, 0, 0, 0, 0⟩ else if p.n = 1 then { x with a := bits .or .i64 x.a p.m } else if p.n = 2 then { x with a := bits .andNot .i64 x.a p.m } else if p.n = 3 then { x with u := p.m }
  else if p.n = 4 then { x with fk := p.ck, fn := p.cn } else if p.n = 5 then { x with bk := p.ck, bn := p.cn } else { x with lk := p.ck, ln := p.cn }
def runS : Sty → List Pen → Option Sty
  | x, [] => some x
  | x, p :: l => if okP p then runS (apS x p) l else none
def errS (x : Sty) : Int := stErr x.a x.u x.fk x.fn x.bk x.bn x.lk x.ln
def zeroS : Sty := ⟨0, 0, 0, 0, 0, 0, 0, 0⟩
def runV (x : Sty) (l : List Pen) : Value :=
  if errS x != 0 then .tuple #[styV zeroS, .int .i64 (errS x)] else match runS x l with | some y => .tuple #[styV y, .int .i64 0] | none => .tuple #[styV zeroS, .int .i64 141]
/-- The pens of a slice, at its cells. -/
def PensIn (w : World) (bl off : Nat) (l : List Pen) : Prop := ∀ (i : Nat) (p : Pen), l[i]? = some p → In64 p.m ∧ w.cell? ⟨bl, off + i * 6, none⟩ = some (.int .i64 p.kd) ∧ w.cell? ⟨bl, off + i * 6 + 1, none⟩ = some (.int .i64 p.n) ∧ w.cell? ⟨bl, off + i * 6 + 2, none⟩ = some (.int .i64 p.m) ∧ w.cell? ⟨bl, off + i * 6 + 3, none⟩ = some (.int .i64 p.ck) ∧ w.cell? ⟨bl, off + i * 6 + 4, none⟩ = some (.int .i64 p.cn) ∧ w.cell? ⟨bl, off + i * 6 + 5, none⟩ = some (.string p.s)
theorem Grows.cell {w w' : World} (g : Grows w w') (n i : Nat) (hn : n < w.heap.size) : w'.cell? ⟨n, i, none⟩ = w.cell? ⟨n, i, none⟩ ∧ n < w'.heap.size := by
  obtain ⟨h, d, rfl⟩ := g
  exact ⟨ext_cell _ _ _ _ _ hn, by rw [ext_size]; omega⟩
theorem abs_world {P : Program} {c : Code} {Q : Exit → Act → World → Prop} {a : Act} {w : World} (F : World → Prop) (hF : F w) (h : ∀ W, F W → c.wp P Q a W) : c.wp P Q a w := h w hF
theorem run_done {x y : Sty} {l : List Pen} {k : Nat} (h : runS x l = runS y (l.drop k)) (hk : k = l.length) : runS x l = some y := by
  subst hk
  rw [h, List.drop_length]
  rfl
theorem run_next {x y : Sty} {l : List Pen} {k : Nat} {p : Pen} (h : runS x l = runS y (l.drop k)) (hp : l[k]? = some p) (ho : okP p = true) : runS x l = runS (apS y p) (l.drop (k + 1)) := by
  obtain ⟨hk, rfl⟩ := List.getElem?_eq_some_iff.1 hp
  rw [h, List.drop_eq_getElem_cons hk, runS, if_pos ho]
theorem run_stop {x y : Sty} {l : List Pen} {k : Nat} {p : Pen} (h : runS x l = runS y (l.drop k)) (hp : l[k]? = some p) (ho : okP p = false) : runS x l = none := by
  obtain ⟨hk, rfl⟩ := List.getElem?_eq_some_iff.1 hp
  rw [h, List.drop_eq_getElem_cons hk, runS, if_neg (by rw [ho]; exact Bool.false_ne_true)]
theorem heap_set {w : World} {N k i : Nat} {v : Value} (h : k ≠ N) : (w.setCell ⟨N, i, none⟩ v).heap[k]? = w.heap[k]? := Deep.blk_setCell_other w ⟨N, i, none⟩ v k h
theorem FnAt.set {w : World} {C k N i : Nat} {v : Value} (h : FnAt w C k) (hn : C ≠ N) : FnAt (w.setCell ⟨N, i, none⟩ v) C k := by
  refine ⟨by rw [World.size_setCell]; exact h.1, ?_⟩
  rw [← h.2]
  exact World.cell?_of_block (heap_set hn)
theorem PensAt.set {w : World} {B C1 C2 C3 N i : Nat} {v : Value} (h : PensAt w B C1 C2 C3) (hn : N < B ∧ N < C1 ∧ N < C2 ∧ N < C3) : PensAt (w.setCell ⟨N, i, none⟩ v) B C1 C2 C3 := by
  obtain ⟨h0, h1, h2, h3, h4, h5⟩ := h
  have hh := heap_set (w := w) (N := N) (k := B) (i := i) (v := v) (by omega)
  exact ⟨by rw [World.size_setCell]; exact h0, by unfold isMap at *; rw [hh]; exact h1, by unfold mapEs at *; rw [hh]; exact h2, h3.set (by omega), h4.set (by omega), h5.set (by omega)⟩
theorem StyAt.setA {w : World} {B : Nat} {a u fk fn bk bn lk ln : Int} (h : StyAt w B a u fk fn bk bn lk ln) (x0 : Int) : StyAt (w.setCell ⟨B, 0, none⟩ (.int .i64 x0)) B x0 u fk fn bk bn lk ln := by
  obtain ⟨k0, c0, c1, c2, c3, c4, c5, c6, c7, f0, f1, f2, f3, f4, f5, f6, f7⟩ := h
  refine ⟨by simp [go_sem, k0], ?_, ?_, ?_, ?_, ?_, ?_, ?_, ?_, ?_, ?_, ?_, ?_, ?_, ?_, ?_, ?_⟩ <;> simp [go_sem, *]
theorem StyAt.setU {w : World} {B : Nat} {a u fk fn bk bn lk ln : Int} (h : StyAt w B a u fk fn bk bn lk ln) (x1 : Int) : StyAt (w.setCell ⟨B, 1, none⟩ (.int .i64 x1)) B a x1 fk fn bk bn lk ln := by
  obtain ⟨k0, c0, c1, c2, c3, c4, c5, c6, c7, f0, f1, f2, f3, f4, f5, f6, f7⟩ := h
  refine ⟨by simp [go_sem, k0], ?_, ?_, ?_, ?_, ?_, ?_, ?_, ?_, ?_, ?_, ?_, ?_, ?_, ?_, ?_, ?_⟩ <;> simp [go_sem, *]
theorem StyAt.setF {w : World} {B : Nat} {a u fk fn bk bn lk ln : Int} (h : StyAt w B a u fk fn bk bn lk ln) (x2 x3 : Int) : StyAt ((w.setCell ⟨B, 2, none⟩ (.int .i64 x2)).setCell ⟨B, 3, none⟩ (.int .i64 x3)) B a u x2 x3 bk bn lk ln := by
  obtain ⟨k0, c0, c1, c2, c3, c4, c5, c6, c7, f0, f1, f2, f3, f4, f5, f6, f7⟩ := h
  refine ⟨by simp [go_sem, k0], ?_, ?_, ?_, ?_, ?_, ?_, ?_, ?_, ?_, ?_, ?_, ?_, ?_, ?_, ?_, ?_⟩ <;> simp [go_sem, *]
theorem StyAt.setB {w : World} {B : Nat} {a u fk fn bk bn lk ln : Int} (h : StyAt w B a u fk fn bk bn lk ln) (x4 x5 : Int) : StyAt ((w.setCell ⟨B, 4, none⟩ (.int .i64 x4)).setCell ⟨B, 5, none⟩ (.int .i64 x5)) B a u fk fn x4 x5 lk ln := by
  obtain ⟨k0, c0, c1, c2, c3, c4, c5, c6, c7, f0, f1, f2, f3, f4, f5, f6, f7⟩ := h
  refine ⟨by simp [go_sem, k0], ?_, ?_, ?_, ?_, ?_, ?_, ?_, ?_, ?_, ?_, ?_, ?_, ?_, ?_, ?_, ?_⟩ <;> simp [go_sem, *]
theorem StyAt.setL {w : World} {B : Nat} {a u fk fn bk bn lk ln : Int} (h : StyAt w B a u fk fn bk bn lk ln) (x6 x7 : Int) : StyAt ((w.setCell ⟨B, 6, none⟩ (.int .i64 x6)).setCell ⟨B, 7, none⟩ (.int .i64 x7)) B a u fk fn bk bn x6 x7 := by
  obtain ⟨k0, c0, c1, c2, c3, c4, c5, c6, c7, f0, f1, f2, f3, f4, f5, f6, f7⟩ := h
  refine ⟨by simp [go_sem, k0], ?_, ?_, ?_, ?_, ?_, ?_, ?_, ?_, ?_, ?_, ?_, ?_, ?_, ?_, ?_, ?_⟩ <;> simp [go_sem, *]
theorem StyAt.setAll {w : World} {B : Nat} {a u fk fn bk bn lk ln : Int} (h : StyAt w B a u fk fn bk bn lk ln) (x0 x1 x2 x3 x4 x5 x6 x7 : Int) : StyAt ((((((((w.setCell ⟨B, 0, none⟩ (.int .i64 x0)).setCell ⟨B, 1, none⟩ (.int .i64 x1)).setCell ⟨B, 2, none⟩ (.int .i64 x2)).setCell ⟨B, 3, none⟩ (.int .i64 x3)).setCell ⟨B, 4, none⟩ (.int .i64 x4)).setCell ⟨B, 5, none⟩ (.int .i64 x5)).setCell ⟨B, 6, none⟩ (.int .i64 x6)).setCell ⟨B, 7, none⟩ (.int .i64 x7)) B x0 x1 x2 x3 x4 x5 x6 x7 := by
  obtain ⟨k0, c0, c1, c2, c3, c4, c5, c6, c7, f0, f1, f2, f3, f4, f5, f6, f7⟩ := h
  refine ⟨by simp [go_sem, k0], ?_, ?_, ?_, ?_, ?_, ?_, ?_, ?_, ?_, ?_, ?_, ?_, ?_, ?_, ?_, ?_⟩ <;> simp [go_sem, *]
theorem StyAt.other {w : World} {B N i : Nat} {v : Value} {a u fk fn bk bn lk ln : Int} (h : StyAt w B a u fk fn bk bn lk ln) (hn : B ≠ N) : StyAt (w.setCell ⟨N, i, none⟩ v) B a u fk fn bk bn lk ln := by
  obtain ⟨k0, c0, c1, c2, c3, c4, c5, c6, c7, f0, f1, f2, f3, f4, f5, f6, f7⟩ := h
  have hh := heap_set (w := w) (N := N) (k := B) (i := i) (v := v) hn
  have hc : ∀ j, (w.setCell ⟨N, i, none⟩ v).cell? ⟨B, j, none⟩ = w.cell? ⟨B, j, none⟩ := fun j => World.cell?_of_block hh
  have hf : ∀ j, (w.setCell ⟨N, i, none⟩ v).frozen? ⟨B, j, none⟩ = w.frozen? ⟨B, j, none⟩ := fun j => by unfold World.frozen?; rw [hh]
  exact ⟨by rw [World.size_setCell]; exact k0, by rw [hc]; exact c0, by rw [hc]; exact c1, by rw [hc]; exact c2, by rw [hc]; exact c3, by rw [hc]; exact c4, by rw [hc]; exact c5, by rw [hc]; exact c6, by rw [hc]; exact c7, by rw [hf]; exact f0, by rw [hf]; exact f1, by rw [hf]; exact f2, by rw [hf]; exact f3, by rw [hf]; exact f4, by rw [hf]; exact f5, by rw [hf]; exact f6, by rw [hf]; exact f7⟩
end Go.Proofs.Ytafokiobbceibaa
