/-
  Walks: the reference: Seen, Inverse; a draft's style.
-/
import Derived.Test.YtafokiobbceibaaRows
import Derived.Test.YtafokiobbceibaaLt
import Derived.Test.YtafokiobbceibaaDefs
import Derived.Test.YtafokiobbceibaaBits
import Derived.Test.YtafokiobbceibaaMaps
import Derived.Test.YtafokiobbceibaaW5
import Derived.Test.YtafokiobbceibaaW7
import Derived.Test.YtafokiobbceibaaRun
import Derived.Test.YtafokiobbceibaaW10
import Derived.Test.YtafokiobbceibaaW13
import Derived.WalkKit
import Derived.WalkSpells
import Derived.WalkLawsBesides
import Derived.Handy
import Derived.Laws.EntriesVeiled
import Derived.Lib.Hide
import Derived.Deep.Light
import Derived.Deep.LoopGhost
import Derived.BigGuardPart
import Derived.BigQuiet
import Derived.Deep.QuietTactic
import Derived.Deep.RegionHeld3
import Derived.Test.YtafokiobbceibaaReg
import Derived.Test.YtafokiobbceibaaReg3
import Derived.Test.YtafokiobbceibaaReg4
namespace Go.Proofs.Ytafokiobbceibaa
open Go.RowKit


set_option maxHeartbeats 2000000 in
theorem rinv_any (a u fk fn bk bn lk ln : Int) (hi : In64 a) (w : World) : Calls Try.prog 27 #[.agg #[.int .i64 a, .int .i64 u, .int .i64 fk, .int .i64 fn, .int .i64 bk, .int .i64 bn, .int .i64 lk, .int .i64 ln]] w (Ret (.agg #[.int .i64 (bits .xor .i64 a 16), .int .i64 u, .int .i64 fk, .int .i64 fn, .int .i64 bk, .int .i64 bn, .int .i64 lk, .int .i64 ln]) w) := by
  rw [xor_16 hi]
  by_cases h : bits .and .i64 a 16 = 0
  · have e1 : (bits .and .i64 a 16 != 0) = false := by simpa using h
    rw [if_pos h]
    clear h
    unfold In64 at hi
    obtain ⟨i1, i2⟩ := hi
    go_enter Try.func27, Try.ntmps27
    go_wp2
    go_returns
    exact ⟨rfl, (by repeat' (first | (with_reducible exact Grows.refl _) | (with_reducible refine Grows.alloc ?_ _) | (with_reducible refine Grows.drew ?_) | (with_reducible refine Grows.ext ?_ _ _)))⟩
  · have e1 : (bits .and .i64 a 16 != 0) = true := by simpa using h
    rw [if_neg h]
    clear h
    unfold In64 at hi
    obtain ⟨i1, i2⟩ := hi
    go_enter Try.func27, Try.ntmps27
    go_wp2
    go_returns
    exact ⟨rfl, (by repeat' (first | (with_reducible exact Grows.refl _) | (with_reducible refine Grows.alloc ?_ _) | (with_reducible refine Grows.drew ?_) | (with_reducible refine Grows.ext ?_ _ _)))⟩
def colK (n : Int) : Int := if n % 3 = 0 then 0 else if n % 3 = 1 then 1 else 2
def colN (n : Int) : Int := if n % 3 = 0 then 0 else if n % 3 = 1 then n / 3 % 256 else n / 3 % 16777216
set_option maxHeartbeats 2000000 in
theorem col_any (n : Int) (h : 0 ≤ n ∧ n < 4294967296) (w : World) : Calls Try.prog 28 #[.int .u32 n] w (Ret (.agg #[.int .i64 (colK n), .int .i64 (colN n)]) w) := by
  obtain ⟨h1, h2⟩ := h
  have hq : n % 3 = 0 ∨ n % 3 = 1 ∨ n % 3 = 2 := by omega
  unfold colK colN
  rcases hq with hq | hq | hq
  all_goals
    simp only [hq, if_true, if_false, Int.reduceEq]
    go_enter Try.func28, Try.ntmps28
    go_wp2
    go_returns
    exact ⟨rfl, (by repeat' (first | (with_reducible exact Grows.refl _) | (with_reducible refine Grows.alloc ?_ _) | (with_reducible refine Grows.drew ?_) | (with_reducible refine Grows.ext ?_ _ _)))⟩
set_option maxHeartbeats 4000000 in
theorem dstyle_any (dA dU dW dM c0 c1 c2 c3 : Int) (hA : 0 ≤ dA ∧ dA < 256) (hU : 0 ≤ dU ∧ dU < 256) (_hW : 0 ≤ dW ∧ dW < 256) (_hM : 0 ≤ dM ∧ dM < 256) (h0 : 0 ≤ c0 ∧ c0 < 4294967296) (h1 : 0 ≤ c1 ∧ c1 < 4294967296) (h2 : 0 ≤ c2 ∧ c2 < 4294967296) (_h3 : 0 ≤ c3 ∧ c3 < 4294967296) (w : World) : Calls Try.prog 10 #[.agg #[.int .u8 dA, .int .u8 dU, .int .u8 dW, .int .u8 dM, .int .u32 c0, .int .u32 c1, .int .u32 c2, .int .u32 c3]] w (Ret (.agg #[.int .i64 dA, .int .i64 (dU % 6), .int .i64 (colK c0), .int .i64 (colN c0), .int .i64 (colK c1), .int .i64 (colN c1), .int .i64 (colK c2), .int .i64 (colN c2)]) w) := by
  have C0 := Lib.hid fun W => col_any c0 h0 W
  have C1 := Lib.hid fun W => col_any c1 h1 W
  have C2 := Lib.hid fun W => col_any c2 h2 W
  clear h0 h1 h2
  obtain ⟨a1, a2⟩ := hA
  obtain ⟨u1, u2⟩ := hU
  generalize colK c0 = k0 at *
  generalize colN c0 = n0 at *
  generalize colK c1 = k1 at *
  generalize colN c1 = n1 at *
  generalize colK c2 = k2 at *
  generalize colN c2 = n2 at *
  go_enter Try.func10, Try.ntmps10
  go_wp2_with fail
  refine wp_region_grow_tail 20 (by kernel_rfl) (by kernel_rfl) ?_
  simp only [List.take_succ_cons, List.take_zero, List.drop_succ_cons, List.drop_zero]
  repeat (first | go_big_quiet_step ((first | (rename_i xg; go_at_call 28; (with_reducible refine (C0.out _).mono ?_); rintro _ _ ⟨rfl, h0, d0, rfl⟩; exact ⟨rfl, Gr.mk (xg.h ++ h0) d0, by simp only [ext_ext, Gr.h_mk, Gr.d_mk]⟩) | (rename_i xg; go_at_call 28; (with_reducible refine (C1.out _).mono ?_); rintro _ _ ⟨rfl, h0, d0, rfl⟩; exact ⟨rfl, Gr.mk (xg.h ++ h0) d0, by simp only [ext_ext, Gr.h_mk, Gr.d_mk]⟩) | (rename_i xg; go_at_call 28; (with_reducible refine (C2.out _).mono ?_); rintro _ _ ⟨rfl, h0, d0, rfl⟩; exact ⟨rfl, Gr.mk (xg.h ++ h0) d0, by simp only [ext_ext, Gr.h_mk, Gr.d_mk]⟩))) | quiet_step ((first | (rename_i xg; go_at_call 28; (with_reducible refine (C0.out _).mono ?_); rintro _ _ ⟨rfl, h0, d0, rfl⟩; exact ⟨rfl, Gr.mk (xg.h ++ h0) d0, by simp only [ext_ext, Gr.h_mk, Gr.d_mk, Array.append_assoc]⟩) | (rename_i xg; go_at_call 28; (with_reducible refine (C1.out _).mono ?_); rintro _ _ ⟨rfl, h0, d0, rfl⟩; exact ⟨rfl, Gr.mk (xg.h ++ h0) d0, by simp only [ext_ext, Gr.h_mk, Gr.d_mk, Array.append_assoc]⟩) | (rename_i xg; go_at_call 28; (with_reducible refine (C2.out _).mono ?_); rintro _ _ ⟨rfl, h0, d0, rfl⟩; exact ⟨rfl, Gr.mk (xg.h ++ h0) d0, by simp only [ext_ext, Gr.h_mk, Gr.d_mk, Array.append_assoc]⟩))))
  refine wpQuiet_nil ?_
  rintro _ ⟨g35, rfl⟩
  go_wp2
  go_returns
  exact ⟨rfl, (by repeat' (first | (with_reducible exact Grows.refl _) | (with_reducible refine Grows.alloc ?_ _) | (with_reducible refine Grows.drew ?_) | (with_reducible refine Grows.ext ?_ _ _)))⟩
end Go.Proofs.Ytafokiobbceibaa
