/-
  Walk: Run.
-/
import Derived.Test.YtafokiobbceibaaRows
import Derived.Test.YtafokiobbceibaaLt
import Derived.Test.YtafokiobbceibaaDefs
import Derived.Test.YtafokiobbceibaaBits
import Derived.Test.YtafokiobbceibaaMaps
import Derived.Test.YtafokiobbceibaaW2
import Derived.Test.YtafokiobbceibaaW3
import Derived.Test.YtafokiobbceibaaW4
import Derived.Test.YtafokiobbceibaaW5
import Derived.Test.YtafokiobbceibaaW6
import Derived.Test.YtafokiobbceibaaW7
import Derived.Test.YtafokiobbceibaaRun
import Derived.WalkKit
import Derived.WalkSpells
import Derived.WalkLawsBesides
import Derived.Handy
import Derived.Laws.EntriesVeiled
import Derived.Lib.Hide
import Derived.Deep.Light
import Derived.Deep.LoopGhost
import Derived.BigGuardPart
import Derived.BigQuiet
import Derived.Deep.QuietTactic
import Derived.Deep.RegionHeld3
import Derived.Test.YtafokiobbceibaaReg
import Derived.Test.YtafokiobbceibaaReg3
import Derived.Test.YtafokiobbceibaaReg4
namespace Go.Proofs.Ytafokiobbceibaa
open Go.RowKit


theorem look67f (w : World) (r : Nat) (k : Int) (h : isMap w r = true) (hf : intKeys (mapEs w r).toList = true) : (Instr.lookup 67 (.map (some r)) (.int .i64 k) false).run Try.prog w = .ok (findV (.agg #[.nilFunc, .bool false, .nilFunc]) k (mapEs w r).toList).1 w := by
  have := run_look Try.underlying67 Try.underlying3 (z := .agg #[.nilFunc, .bool false, .nilFunc]) (fun w => by kernel_rfl) w r k false h hf
  simpa using this
theorem fld65 (x y z : Value) (w : World) : (Instr.field 65 (.agg #[x, y, z]) 2).run Try.prog w = .ok z w := by kernel_rfl
theorem pens_run (w : World) : Calls Try.prog 31 #[] w (fun e w' => ∃ (B C1 C2 C3 : Nat) (h : Array Obj) (d : Nat), e = .returned (.map (some B)) ∧ w' = ext w h d ∧ PensAt (ext w h d) B C1 C2 C3 ∧ (w.heap.size ≤ B ∧ w.heap.size ≤ C1 ∧ w.heap.size ≤ C2 ∧ w.heap.size ≤ C3)) := by
  refine (pens_full w).mono ?_
  rintro e w' ⟨rfl, rfl⟩
  have hp : PensAt (((((((w.alloc (.map (penEs (w.heap.size + 1) (w.heap.size + 1 + 1 + 1) (w.heap.size + 1 + 1 + 1 + 1 + 1)) 7)).alloc (.cells #[.func (.func 45) #[] #[]] 74)).alloc (.cells #[.func (.func 36) #[] #[], .bool true, .func (.func 37) #[] #[.pointer (some ⟨w.heap.size + 1, 0, none⟩)]] 65)).alloc (.cells #[.func (.func 46) #[] #[]] 74)).alloc (.cells #[.func (.func 36) #[] #[], .bool true, .func (.func 37) #[] #[.pointer (some ⟨w.heap.size + 1 + 1 + 1, 0, none⟩)]] 65)).alloc (.cells #[.func (.func 47) #[] #[]] 74)).alloc (.cells #[.func (.func 36) #[] #[], .bool true, .func (.func 37) #[] #[.pointer (some ⟨w.heap.size + 1 + 1 + 1 + 1 + 1, 0, none⟩)]] 65)) w.heap.size (w.heap.size + 1) (w.heap.size + 1 + 1 + 1) (w.heap.size + 1 + 1 + 1 + 1 + 1) := ⟨by simp [go_sem], by simp [go_sem], by simp [go_sem], ⟨by simp [go_sem], by simp [go_sem]⟩, ⟨by simp [go_sem], by simp [go_sem]⟩, ⟨by simp [go_sem], by simp [go_sem]⟩⟩
  have hg : Grows w (((((((w.alloc (.map (penEs (w.heap.size + 1) (w.heap.size + 1 + 1 + 1) (w.heap.size + 1 + 1 + 1 + 1 + 1)) 7)).alloc (.cells #[.func (.func 45) #[] #[]] 74)).alloc (.cells #[.func (.func 36) #[] #[], .bool true, .func (.func 37) #[] #[.pointer (some ⟨w.heap.size + 1, 0, none⟩)]] 65)).alloc (.cells #[.func (.func 46) #[] #[]] 74)).alloc (.cells #[.func (.func 36) #[] #[], .bool true, .func (.func 37) #[] #[.pointer (some ⟨w.heap.size + 1 + 1 + 1, 0, none⟩)]] 65)).alloc (.cells #[.func (.func 47) #[] #[]] 74)).alloc (.cells #[.func (.func 36) #[] #[], .bool true, .func (.func 37) #[] #[.pointer (some ⟨w.heap.size + 1 + 1 + 1 + 1 + 1, 0, none⟩)]] 65)) := (by repeat' (first | (with_reducible exact Grows.refl _) | (with_reducible refine Grows.alloc ?_ _) | (with_reducible refine Grows.drew ?_) | (with_reducible refine Grows.ext ?_ _ _)))
  revert hp
  obtain ⟨h, d, e⟩ := hg
  rw [e]
  intro hp
  exact ⟨_, _, _, _, h, d, rfl, rfl, hp, by omega, by omega, by omega, by omega⟩

set_option maxRecDepth 100000 in
set_option maxHeartbeats 20000000 in
theorem run_nil (a u fk fn bk bn lk ln : Int) (hi : In64 a) (oa : Option Addr) (cap : Nat) (w : World) : Calls Try.prog 17 #[.agg #[.int .i64 a, .int .i64 u, .int .i64 fk, .int .i64 fn, .int .i64 bk, .int .i64 bn, .int .i64 lk, .int .i64 ln], .slice oa 0 cap] w (Ret (runV ⟨a, u, fk, fn, bk, bn, lk, ln⟩ []) w) := by
  have hck := fun V => check_any a u fk fn bk bn lk ln hi V
  have hres : runV ⟨a, u, fk, fn, bk, bn, lk, ln⟩ [] = if stErr a u fk fn bk bn lk ln != 0 then .tuple #[styV zeroS, .int .i64 (stErr a u fk fn bk bn lk ln)] else match runS ⟨a, u, fk, fn, bk, bn, lk, ln⟩ [] with | some y => .tuple #[styV y, .int .i64 0] | none => .tuple #[styV zeroS, .int .i64 141] := rfl
  have hst : stErr a u fk fn bk bn lk ln = 0 ∨ (stErr a u fk fn bk bn lk ln != 0) = true := by
    by_cases h : stErr a u fk fn bk bn lk ln = 0
    · exact Or.inl h
    · exact Or.inr (by simpa using h)
  generalize stErr a u fk fn bk bn lk ln = E at *
  rw [hres]
  have Hck := Lib.hid hck
  clear hck hi hres
  rcases hst with rfl | hE
  · simp only [bne_self_eq_false, Bool.false_eq_true, if_false]
    obtain ⟨V, hV⟩ : ∃ V, V = (match runS ⟨a, u, fk, fn, bk, bn, lk, ln⟩ [] with | some y => Value.tuple #[styV y, .int .i64 0] | none => .tuple #[styV zeroS, .int .i64 141]) := ⟨_, rfl⟩
    rw [← hV]
    have HV := Lib.hid hV
    clear hV
    go_enter Try.func17, Try.ntmps17
    go_wp2_with (first | (go_at_call 12; (with_reducible refine (Hck.out _).mono ?_); rintro e w' ⟨rfl, h1, d1, rfl⟩) | (go_at_call 31; (with_reducible refine (pens_run _).mono ?_); rintro e w' ⟨B, C1, C2, C3, h2, d2, rfl, rfl, hP, hle⟩))
    refine abs_world (F := fun W => StyAt W w.heap.size a u fk fn bk bn lk ln ∧ StyAt W (w.heap.size + 1) 0 0 0 0 0 0 0 0 ∧ PensAt W B C1 C2 C3 ∧ Grows w W) ⟨⟨by simp [go_sem], by simp [go_sem], by simp [go_sem], by simp [go_sem], by simp [go_sem], by simp [go_sem], by simp [go_sem], by simp [go_sem], by simp [go_sem], by simp [go_sem], by simp [go_sem], by simp [go_sem], by simp [go_sem], by simp [go_sem], by simp [go_sem], by simp [go_sem], by simp [go_sem]⟩, ⟨by simp [go_sem], by simp [go_sem], by simp [go_sem], by simp [go_sem], by simp [go_sem], by simp [go_sem], by simp [go_sem], by simp [go_sem], by simp [go_sem], by simp [go_sem], by simp [go_sem], by simp [go_sem], by simp [go_sem], by simp [go_sem], by simp [go_sem], by simp [go_sem], by simp [go_sem]⟩, (by simp only [ext_ext] at hP ⊢; exact hP), (by repeat' (first | (with_reducible exact Grows.refl _) | (with_reducible refine Grows.alloc ?_ _) | (with_reducible refine Grows.drew ?_) | (with_reducible refine Grows.ext ?_ _ _)))⟩ ?_
    clear hP
    rintro wo ⟨hS, hO, hP, hG⟩
    have hle2 : w.heap.size + 1 < B ∧ w.heap.size + 1 < C1 ∧ w.heap.size + 1 < C2 ∧ w.heap.size + 1 < C3 := by simp only [ext_size, World.size_alloc] at hle; omega
    have hne : w.heap.size + 1 ≠ w.heap.size := by omega
    clear hle
    have hle3 : w.heap.size < w.heap.size + 1 := by omega
    generalize hBo : w.heap.size + 1 = Bo at *
    generalize hBs : w.heap.size = Bs at *
    have hwo : w.heap.size ≤ Bo := by omega
    have hwo2 : w.heap.size ≤ Bs := by omega
    clear hBo hBs
    go_loopw [20] (fun i wr' => ∃ (wv : World) (k : Nat) (x : Sty), wv = wr' ∧ k ≤ 0 ∧ i = .int .i64 k ∧ runS ⟨a, u, fk, fn, bk, bn, lk, ln⟩ [] = some x ∧ StyAt wv Bs x.a x.u x.fk x.fn x.bk x.bn x.lk x.ln ∧ StyAt wv Bo 0 0 0 0 0 0 0 0 ∧ PensAt wv B C1 C2 C3 ∧ Grows w wv) (fun i _ => 0 - (intOf i).toNat)
    case atStart => exact ⟨_, 0, ⟨a, u, fk, fn, bk, bn, lk, ln⟩, rfl, by omega, rfl, rfl, hS, hO, hP, hG⟩
    case round =>
      clear hS hO hP hG
      obtain ⟨wv, k, x, rfl, hk, rfl, hrun, hS, hO, hP, hG⟩ := hrel
      have hS0 := hS
      have hO0 := hO
      obtain ⟨t0, j0, j1, j2, j3, j4, j5, j6, j7, g0, g1, g2, g3, g4, g5, g6, g7⟩ := hS
      obtain ⟨t1, i0, i1, i2, i3, i4, i5, i6, i7, o0, o1, o2, o3, o4, o5, o6, o7⟩ := hO
      obtain rfl : k = 0 := by omega
      have HR := Lib.hid hrun
      clear hrun
      go_wp2
      (try simp only [Exit.inBlock, Exit.then])
      refine bodyPost_ret (by simp [results, Try.results17, go_sem, i0, i1, i2, i3, i4, i5, i6, i7]; try rfl) rfl ?_
      refine ⟨?_, (by repeat' (first | (with_reducible exact hG) | (with_reducible refine Grows.setCell ?_ hwo2 _) | (with_reducible refine Grows.setCell ?_ hwo _) | (with_reducible exact Grows.refl _) | (with_reducible refine Grows.alloc ?_ _) | (with_reducible refine Grows.drew ?_) | (with_reducible refine Grows.ext ?_ _ _)))⟩
      rw [HV.out, HR.out]
      rfl

  · simp only [hE, if_true]
    go_enter Try.func17, Try.ntmps17
    go_wp2_with (go_at_call 12; (with_reducible refine (Hck.out _).mono ?_); rintro e w' ⟨rfl, h1, d1, rfl⟩)
    go_returns
    exact ⟨rfl, (by repeat' (first | (with_reducible exact Grows.refl _) | (with_reducible refine Grows.alloc ?_ _) | (with_reducible refine Grows.drew ?_) | (with_reducible refine Grows.ext ?_ _ _)))⟩
end Go.Proofs.Ytafokiobbceibaa
