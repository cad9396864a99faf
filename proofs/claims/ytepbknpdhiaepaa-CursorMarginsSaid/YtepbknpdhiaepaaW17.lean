/-
  Walk: the law CursorMargins.
-/
import Derived.Test.YtepbknpdhiaepaaRows
import Derived.Test.YtepbknpdhiaepaaLt
import Derived.Test.YtepbknpdhiaepaaDefs
import Derived.Test.YtepbknpdhiaepaaW1
import Derived.Test.YtepbknpdhiaepaaW2
import Derived.Test.YtepbknpdhiaepaaW16
import Derived.WalkKit
import Derived.WalkSpells
import Derived.WalkLawsBesides
import Derived.Handy
import Derived.Lib.Hide
import Derived.Deep.Light
import Derived.Deep.LoopGhost
import Derived.BigGuardPart
import Derived.BigQuiet
import Derived.Deep.QuietTactic
import Derived.Deep.RegionHeld3
import Derived.Test.YtepbknpdhiaepaaReg
import Derived.Test.YtepbknpdhiaepaaReg3
namespace Go.Proofs.Ytepbknpdhiaepaa
open Go.RowKit


theorem in64_wrap (x : Int) : In64 (wrap64 x) := by
  unfold In64 wrap64
  omega
theorem idx48_0 (x0 x1 x2 x3 x4 x5 x6 x7 x8 : Value) (w : World) : (Instr.index 48 (.agg #[x0, x1, x2, x3, x4, x5, x6, x7, x8]) (.int .i64 0)).run Try.prog w = .ok (.agg #[x0, x1, x2]) w := by kernel_rfl
theorem idx48_1 (x0 x1 x2 x3 x4 x5 x6 x7 x8 : Value) (w : World) : (Instr.index 48 (.agg #[x0, x1, x2, x3, x4, x5, x6, x7, x8]) (.int .i64 1)).run Try.prog w = .ok (.agg #[x3, x4, x5]) w := by kernel_rfl
theorem idx48_2 (x0 x1 x2 x3 x4 x5 x6 x7 x8 : Value) (w : World) : (Instr.index 48 (.agg #[x0, x1, x2, x3, x4, x5, x6, x7, x8]) (.int .i64 2)).run Try.prog w = .ok (.agg #[x6, x7, x8]) w := by kernel_rfl
theorem index48 (a b c d e f g h i : Int) (ha : In64 a) (hb : In64 b) (hc : In64 c) (hd : In64 d) (he : In64 e) (hf : In64 f) (hg : In64 g) (hh : In64 h) (hi : In64 i) (k : Nat) (hk : k < 3) :
    ∃ p q r : Int, In64 p ∧ In64 q ∧ In64 r ∧ ∀ w, (Instr.index 48 (.agg #[.int .i64 a, .int .i64 b, .int .i64 c, .int .i64 d, .int .i64 e, .int .i64 f, .int .i64 g, .int .i64 h, .int .i64 i]) (.int .i64 k)).run Try.prog w = .ok (.agg #[.int .i64 p, .int .i64 q, .int .i64 r]) w := by
  have hk : k = 0 ∨ k = 1 ∨ k = 2 := by omega
  rcases hk with rfl | rfl | rfl
  · exact ⟨a, b, c, ha, hb, hc, fun w => idx48_0 _ _ _ _ _ _ _ _ _ w⟩
  · exact ⟨d, e, f, hd, he, hf, fun w => idx48_1 _ _ _ _ _ _ _ _ _ w⟩
  · exact ⟨g, h, i, hg, hh, hi, fun w => idx48_2 _ _ _ _ _ _ _ _ _ w⟩
set_option maxRecDepth 100000 in
set_option maxHeartbeats 4000000 in
theorem lawMargins_true (rows n m : Int) (hr : In64 rows) (hn : In64 n) (hm : In64 m) (w : World) : Calls Try.prog 4 #[.int .i64 rows, .int .i64 n, .int .i64 m] w (Ret (.bool true) w) := by
  have Hix := Lib.hid (fun k hk => index48 rows n m (wrap64 ((IntKind.u64.wrap rows).tmod 42)) (wrap64 (wrap64 ((IntKind.u64.wrap n).tmod 45) - 1)) (wrap64 (wrap64 ((IntKind.u64.wrap m).tmod 45) - 1)) rows 0 0 hr hn hm (in64_wrap _) (in64_wrap _) (in64_wrap _) hr (by unfold In64; omega) (by unfold In64; omega) k hk)
  clear hr hn hm
  go_enter Try.func4, Try.ntmps4
  go_wp2
  go_loopw [37] (fun i wr => ∃ k : Nat, k ≤ 3 ∧ i = .int .i64 k ∧ Grows w wr) (fun i _ => 3 - (intOf i).toNat)
  case atStart => exact ⟨0, by omega, rfl, (by repeat' (first | (with_reducible exact Grows.refl _) | (with_reducible refine Grows.alloc ?_ _) | (with_reducible refine Grows.drew ?_) | (with_reducible refine Grows.ext ?_ _ _)))⟩
  case round =>
    obtain ⟨k, hk, rfl, h0, d0, rfl⟩ := hrel
    by_cases hkn : k = 3
    · subst hkn
      go_wp2_with (go_at_call 22; refine (works_true _).mono ?_; rintro e w' ⟨rfl, h9, d9, rfl⟩)
      go_returns
      exact ⟨rfl, (by repeat' (first | (with_reducible exact Grows.refl _) | (with_reducible refine Grows.alloc ?_ _) | (with_reducible refine Grows.drew ?_) | (with_reducible refine Grows.ext ?_ _ _)))⟩
    · obtain ⟨p, q, r, hp, hq, hr, hix⟩ := Hix.out k (by omega)
      have hlt : decide ((k : Int) < 3) = true := by simp; omega
      have Hp := Lib.hid hp
      have Hq := Lib.hid hq
      have Hr := Lib.hid hr
      clear hp hq hr
      go_wp2_with (first | (go_at_call 23; refine (margins_any _ _ _ Hp.out Hq.out Hr.out _).mono ?_; rintro e w' ⟨rfl, rfl⟩) | (go_at_call 24; refine (rmargins_any _ _ _ Hp.out Hq.out Hr.out _).mono ?_; rintro e w' ⟨rfl, rfl⟩))
      go_roundw
      case rel => exact ⟨k + 1, by omega, by go_num, (by repeat' (first | (with_reducible exact Grows.refl _) | (with_reducible refine Grows.alloc ?_ _) | (with_reducible refine Grows.drew ?_) | (with_reducible refine Grows.ext ?_ _ _)))⟩
      case measure => simp [intOf]; omega
end Go.Proofs.Ytepbknpdhiaepaa
