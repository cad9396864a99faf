/-
  Walk: the law StyleSeen.
-/
import Derived.Test.YtafokiobbceibaaRows
import Derived.Test.YtafokiobbceibaaLt
import Derived.Test.YtafokiobbceibaaDefs
import Derived.Test.YtafokiobbceibaaBits
import Derived.Test.YtafokiobbceibaaMaps
import Derived.Test.YtafokiobbceibaaW5
import Derived.Test.YtafokiobbceibaaW7
import Derived.Test.YtafokiobbceibaaRun
import Derived.Test.YtafokiobbceibaaW10
import Derived.Test.YtafokiobbceibaaW12
import Derived.Test.YtafokiobbceibaaW13
import Derived.Test.YtafokiobbceibaaW14
import Derived.Test.YtafokiobbceibaaW15
import Derived.WalkKit
import Derived.WalkSpells
import Derived.WalkLawsBesides
import Derived.Handy
import Derived.Laws.EntriesVeiled
import Derived.Lib.Hide
import Derived.Deep.Light
import Derived.Deep.LoopGhost
import Derived.BigGuardPart
import Derived.BigQuiet
import Derived.Deep.QuietTactic
import Derived.Deep.RegionHeld3
import Derived.Test.YtafokiobbceibaaReg
import Derived.Test.YtafokiobbceibaaReg3
import Derived.Test.YtafokiobbceibaaReg4
namespace Go.Proofs.Ytafokiobbceibaa
open Go.RowKit

theorem idx44_0 (x0 x1 x2 x3 x4 x5 x6 x7 x8 x9 x10 x11 x12 x13 x14 x15 : Value) (w : World) : (Instr.index 44 (.agg #[x0, x1, x2, x3, x4, x5, x6, x7, x8, x9, x10, x11, x12, x13, x14, x15]) (.int .i64 0)).run Try.prog w = .ok (.agg #[x0, x1, x2, x3, x4, x5, x6, x7]) w := by kernel_rfl
theorem idx44_1 (x0 x1 x2 x3 x4 x5 x6 x7 x8 x9 x10 x11 x12 x13 x14 x15 : Value) (w : World) : (Instr.index 44 (.agg #[x0, x1, x2, x3, x4, x5, x6, x7, x8, x9, x10, x11, x12, x13, x14, x15]) (.int .i64 1)).run Try.prog w = .ok (.agg #[x8, x9, x10, x11, x12, x13, x14, x15]) w := by kernel_rfl
theorem index44 (a u fk fn bk bn lk ln a1 u1 fk1 fn1 bk1 bn1 lk1 ln1 : Int) (ha : In64 a) (hb : In64 a1) (k : Nat) (hk : k < 2) : ∃ a2 u2 fk2 fn2 bk2 bn2 lk2 ln2 : Int, In64 a2 ∧ ∀ w, (Instr.index 44 (.agg #[.int .i64 a, .int .i64 u, .int .i64 fk, .int .i64 fn, .int .i64 bk, .int .i64 bn, .int .i64 lk, .int .i64 ln, .int .i64 a1, .int .i64 u1, .int .i64 fk1, .int .i64 fn1, .int .i64 bk1, .int .i64 bn1, .int .i64 lk1, .int .i64 ln1]) (.int .i64 k)).run Try.prog w = .ok (.agg #[.int .i64 a2, .int .i64 u2, .int .i64 fk2, .int .i64 fn2, .int .i64 bk2, .int .i64 bn2, .int .i64 lk2, .int .i64 ln2]) w := by
  have hk : k = 0 ∨ k = 1 := by omega
  rcases hk with rfl | rfl
  · exact ⟨a, u, fk, fn, bk, bn, lk, ln, ha, fun w => idx44_0 _ _ _ _ _ _ _ _ _ _ _ _ _ _ _ _ w⟩
  · exact ⟨a1, u1, fk1, fn1, bk1, bn1, lk1, ln1, hb, fun w => idx44_1 _ _ _ _ _ _ _ _ _ _ _ _ _ _ _ _ w⟩

set_option maxRecDepth 100000 in
set_option maxHeartbeats 20000000 in
theorem lawSeen_true (a u fk fn bk bn lk ln : Int) (hi : In64 a) (dA dU dW dM c0 c1 c2 c3 : Int) (hA : 0 ≤ dA ∧ dA < 256) (hU : 0 ≤ dU ∧ dU < 256) (hW : 0 ≤ dW ∧ dW < 256) (hM : 0 ≤ dM ∧ dM < 256) (h0 : 0 ≤ c0 ∧ c0 < 4294967296) (h1 : 0 ≤ c1 ∧ c1 < 4294967296) (h2 : 0 ≤ c2 ∧ c2 < 4294967296) (h3 : 0 ≤ c3 ∧ c3 < 4294967296) (w : World) : Calls Try.prog 8 #[.agg #[.int .i64 a, .int .i64 u, .int .i64 fk, .int .i64 fn, .int .i64 bk, .int .i64 bn, .int .i64 lk, .int .i64 ln], .agg #[.int .u8 dA, .int .u8 dU, .int .u8 dW, .int .u8 dM, .int .u32 c0, .int .u32 c1, .int .u32 c2, .int .u32 c3]] w (Ret (.bool true) w) := by
  have hd := fun W => dstyle_any dA dU dW dM c0 c1 c2 c3 hA hU hW hM h0 h1 h2 h3 W
  have hi2 : In64 dA := by unfold In64; omega
  clear hA hU hW hM h0 h1 h2 h3
  obtain ⟨a1, u1, fk1, fn1, bk1, bn1, lk1, ln1, hi3, hd⟩ : ∃ a1 u1 fk1 fn1 bk1 bn1 lk1 ln1 : Int, In64 a1 ∧ ∀ W, Calls Try.prog 10 #[.agg #[.int .u8 dA, .int .u8 dU, .int .u8 dW, .int .u8 dM, .int .u32 c0, .int .u32 c1, .int .u32 c2, .int .u32 c3]] W (Ret (.agg #[.int .i64 a1, .int .i64 u1, .int .i64 fk1, .int .i64 fn1, .int .i64 bk1, .int .i64 bn1, .int .i64 lk1, .int .i64 ln1]) W) := ⟨_, _, _, _, _, _, _, _, hi2, hd⟩
  have Hd := Lib.hid hd
  have Hi := Lib.hid hi
  have Hi3 := Lib.hid hi3
  clear hd hi hi2 hi3
  go_enter Try.func8, Try.ntmps8
  go_wp2_with fail
  refine wp_region_grow (by kernel_rfl) (by kernel_rfl) ?_
  repeat (first | go_big_quiet_step ((first | (rename_i xg; go_at_call 10; (with_reducible refine (Hd.out _).mono ?_); rintro _ _ ⟨rfl, h0, d0, rfl⟩; exact ⟨rfl, Gr.mk (xg.h ++ h0) d0, by simp only [ext_ext, Gr.h_mk, Gr.d_mk]⟩))) | quiet_step ((first | (rename_i xg; go_at_call 10; (with_reducible refine (Hd.out _).mono ?_); rintro _ _ ⟨rfl, h0, d0, rfl⟩; exact ⟨rfl, Gr.mk (xg.h ++ h0) d0, by simp only [ext_ext, Gr.h_mk, Gr.d_mk, Array.append_assoc]⟩))))
  refine wpQuiet_nil ?_
  rintro _ ⟨g36, rfl⟩
  go_wp2_with fail
  go_loopw [15] (fun i wr' => ∃ (wv : World) (k : Nat), wv = wr' ∧ k ≤ 2 ∧ i = .int .i64 k ∧ Grows w wv) (fun i _ => 2 - (intOf i).toNat)
  case atStart => exact ⟨_, 0, rfl, by omega, rfl, (by repeat' (first | (with_reducible exact Grows.refl _) | (with_reducible refine Grows.alloc ?_ _) | (with_reducible refine Grows.drew ?_) | (with_reducible refine Grows.ext ?_ _ _)))⟩
  case round =>
    obtain ⟨wv, k, rfl, hk, rfl, hG⟩ := hrel
    by_cases hkn : k = 2
    · subst hkn
      go_wp2_with (go_at_call 16; (with_reducible refine (works_true _).mono ?_); rintro e w' ⟨rfl, h1, d1, rfl⟩)
      go_returns
      exact ⟨rfl, (by repeat' (first | (with_reducible exact hG) | (with_reducible exact Grows.refl _) | (with_reducible refine Grows.alloc ?_ _) | (with_reducible refine Grows.drew ?_) | (with_reducible refine Grows.ext ?_ _ _)))⟩
    · obtain ⟨a2, u2, fk2, fn2, bk2, bn2, lk2, ln2, hi4, hix⟩ := index44 a u fk fn bk bn lk ln a1 u1 fk1 fn1 bk1 bn1 lk1 ln1 Hi.out Hi3.out k (by omega)
      have hlt : decide ((k : Int) < 2) = true := by simp; omega
      have hs1 := fun W => seen_any a2 u2 fk2 fn2 bk2 bn2 lk2 ln2 W
      have hs2 := fun W => rseen_any a2 u2 fk2 fn2 bk2 bn2 lk2 ln2 W
      have hv1 := fun W => inv_any a2 u2 fk2 fn2 bk2 bn2 lk2 ln2 W
      have hv2 := fun W => rinv_any a2 u2 fk2 fn2 bk2 bn2 lk2 ln2 hi4 W
      unfold seenV at hs1 hs2
      generalize pick2 (invB a2 == hidB a2) fk2 bk2 = z1 at *
      generalize pick2 (invB a2 == hidB a2) fn2 bn2 = z2 at *
      generalize pick2 (invB a2) fk2 bk2 = z3 at *
      generalize pick2 (invB a2) fn2 bn2 = z4 at *
      generalize bits .xor .i64 a2 16 = z5 at *
      have Hs1 := Lib.hid hs1
      have Hs2 := Lib.hid hs2
      have Hv1 := Lib.hid hv1
      have Hv2 := Lib.hid hv2
      clear hs1 hs2 hv1 hv2 hi4
      go_wp2_with (first | (go_at_call 24; (with_reducible refine (Hs1.out _).mono ?_); rintro e w' ⟨rfl, h3, d3, rfl⟩) | (go_at_call 25; (with_reducible refine (Hs2.out _).mono ?_); rintro e w' ⟨rfl, h4, d4, rfl⟩))
      refine wp_region_grow (by kernel_rfl) (by kernel_rfl) ?_
      repeat (first | go_big_quiet_step ((first | (rename_i xg; go_at_call 26; (with_reducible refine (Hv1.out _).mono ?_); rintro _ _ ⟨rfl, h0, d0, rfl⟩; exact ⟨rfl, Gr.mk (xg.h ++ h0) d0, by simp only [ext_ext, Gr.h_mk, Gr.d_mk]⟩) | (rename_i xg; go_at_call 27; (with_reducible refine (Hv2.out _).mono ?_); rintro _ _ ⟨rfl, h0, d0, rfl⟩; exact ⟨rfl, Gr.mk (xg.h ++ h0) d0, by simp only [ext_ext, Gr.h_mk, Gr.d_mk]⟩))) | quiet_step ((first | (rename_i xg; go_at_call 26; (with_reducible refine (Hv1.out _).mono ?_); rintro _ _ ⟨rfl, h0, d0, rfl⟩; exact ⟨rfl, Gr.mk (xg.h ++ h0) d0, by simp only [ext_ext, Gr.h_mk, Gr.d_mk, Array.append_assoc]⟩) | (rename_i xg; go_at_call 27; (with_reducible refine (Hv2.out _).mono ?_); rintro _ _ ⟨rfl, h0, d0, rfl⟩; exact ⟨rfl, Gr.mk (xg.h ++ h0) d0, by simp only [ext_ext, Gr.h_mk, Gr.d_mk, Array.append_assoc]⟩))))
      refine wpQuiet_nil ?_
      rintro _ ⟨g37, rfl⟩
      go_wp2
      go_roundw
      case rel => exact ⟨_, k + 1, rfl, by omega, by go_num, (by repeat' (first | (with_reducible exact hG) | (with_reducible exact Grows.refl _) | (with_reducible refine Grows.alloc ?_ _) | (with_reducible refine Grows.drew ?_) | (with_reducible refine Grows.ext ?_ _ _)))⟩
      case measure => simp [intOf]; omega
end Go.Proofs.Ytafokiobbceibaa
