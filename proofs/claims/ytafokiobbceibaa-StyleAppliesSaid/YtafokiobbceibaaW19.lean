/-
  Walk: a draft's pen.
-/
import Derived.Test.YtafokiobbceibaaRows
import Derived.Test.YtafokiobbceibaaLt
import Derived.Test.YtafokiobbceibaaDefs
import Derived.Test.YtafokiobbceibaaBits
import Derived.Test.YtafokiobbceibaaW5
import Derived.Test.YtafokiobbceibaaW13
import Derived.Test.YtafokiobbceibaaW14
import Derived.WalkKit
import Derived.WalkSpells
import Derived.WalkLawsBesides
import Derived.Handy
import Derived.Laws.EntriesVeiled
import Derived.Lib.Hide
import Derived.Deep.Light
import Derived.Deep.LoopGhost
import Derived.BigGuardPart
import Derived.BigQuiet
import Derived.Deep.QuietTactic
import Derived.Deep.RegionHeld3
import Derived.Test.YtafokiobbceibaaReg
import Derived.Test.YtafokiobbceibaaReg3
import Derived.Test.YtafokiobbceibaaReg4
namespace Go.Proofs.Ytafokiobbceibaa
open Go.RowKit


def penAg (n m ck cn : Int) : Value := .agg #[.int .i64 39, .int .i64 n, .int .i64 m, .int .i64 ck, .int .i64 cn, .string ⟨#[]⟩]

set_option maxHeartbeats 4000000 in
theorem dpen_0 (dA dU dW dM c0 c1 c2 c3 : Int) (_hA : 0 ≤ dA ∧ dA < 256) (_hU : 0 ≤ dU ∧ dU < 256) (hW : 0 ≤ dW ∧ dW < 256) (hM : 0 ≤ dM ∧ dM < 256) (_h0 : 0 ≤ c0 ∧ c0 < 4294967296) (_h1 : 0 ≤ c1 ∧ c1 < 4294967296) (_h2 : 0 ≤ c2 ∧ c2 < 4294967296) (_h3 : 0 ≤ c3 ∧ c3 < 4294967296) (hq : dW % 7 = 0) (w : World) : Calls Try.prog 11 #[.agg #[.int .u8 dA, .int .u8 dU, .int .u8 dW, .int .u8 dM, .int .u32 c0, .int .u32 c1, .int .u32 c2, .int .u32 c3]] w (Ret (penAg 0 0 0 0) w) := by
  unfold penAg
  obtain ⟨b1, b2⟩ := hW
  obtain ⟨b3, b4⟩ := hM
  clear _hA _hU _h0 _h1 _h2 _h3
  go_enter Try.func11, Try.ntmps11
  go_wp2_with fail
  go_returns
  exact ⟨rfl, (by repeat' (first | (with_reducible exact Grows.refl _) | (with_reducible refine Grows.alloc ?_ _) | (with_reducible refine Grows.drew ?_) | (with_reducible refine Grows.ext ?_ _ _)))⟩

set_option maxHeartbeats 4000000 in
theorem dpen_1_0 (dA dU dW dM c0 c1 c2 c3 : Int) (_hA : 0 ≤ dA ∧ dA < 256) (_hU : 0 ≤ dU ∧ dU < 256) (hW : 0 ≤ dW ∧ dW < 256) (hM : 0 ≤ dM ∧ dM < 256) (_h0 : 0 ≤ c0 ∧ c0 < 4294967296) (_h1 : 0 ≤ c1 ∧ c1 < 4294967296) (_h2 : 0 ≤ c2 ∧ c2 < 4294967296) (_h3 : 0 ≤ c3 ∧ c3 < 4294967296) (hq : dW % 7 = 1) (hm : dM % 8 = 0) (w : World) : Calls Try.prog 11 #[.agg #[.int .u8 dA, .int .u8 dU, .int .u8 dW, .int .u8 dM, .int .u32 c0, .int .u32 c1, .int .u32 c2, .int .u32 c3]] w (Ret (penAg 1 1 0 0) w) := by
  unfold penAg
  obtain ⟨b1, b2⟩ := hW
  obtain ⟨b3, b4⟩ := hM
  clear _hA _hU _h0 _h1 _h2 _h3
  go_enter Try.func11, Try.ntmps11
  go_wp2_with fail
  go_returns
  exact ⟨rfl, (by repeat' (first | (with_reducible exact Grows.refl _) | (with_reducible refine Grows.alloc ?_ _) | (with_reducible refine Grows.drew ?_) | (with_reducible refine Grows.ext ?_ _ _)))⟩

set_option maxHeartbeats 4000000 in
theorem dpen_2_0 (dA dU dW dM c0 c1 c2 c3 : Int) (_hA : 0 ≤ dA ∧ dA < 256) (_hU : 0 ≤ dU ∧ dU < 256) (hW : 0 ≤ dW ∧ dW < 256) (hM : 0 ≤ dM ∧ dM < 256) (_h0 : 0 ≤ c0 ∧ c0 < 4294967296) (_h1 : 0 ≤ c1 ∧ c1 < 4294967296) (_h2 : 0 ≤ c2 ∧ c2 < 4294967296) (_h3 : 0 ≤ c3 ∧ c3 < 4294967296) (hq : dW % 7 = 2) (hm : dM % 8 = 0) (w : World) : Calls Try.prog 11 #[.agg #[.int .u8 dA, .int .u8 dU, .int .u8 dW, .int .u8 dM, .int .u32 c0, .int .u32 c1, .int .u32 c2, .int .u32 c3]] w (Ret (penAg 2 3 0 0) w) := by
  unfold penAg
  obtain ⟨b1, b2⟩ := hW
  obtain ⟨b3, b4⟩ := hM
  clear _hA _hU _h0 _h1 _h2 _h3
  go_enter Try.func11, Try.ntmps11
  go_wp2_with fail
  go_returns
  exact ⟨rfl, (by repeat' (first | (with_reducible exact Grows.refl _) | (with_reducible refine Grows.alloc ?_ _) | (with_reducible refine Grows.drew ?_) | (with_reducible refine Grows.ext ?_ _ _)))⟩

set_option maxHeartbeats 4000000 in
theorem dpen_1_1 (dA dU dW dM c0 c1 c2 c3 : Int) (_hA : 0 ≤ dA ∧ dA < 256) (_hU : 0 ≤ dU ∧ dU < 256) (hW : 0 ≤ dW ∧ dW < 256) (hM : 0 ≤ dM ∧ dM < 256) (_h0 : 0 ≤ c0 ∧ c0 < 4294967296) (_h1 : 0 ≤ c1 ∧ c1 < 4294967296) (_h2 : 0 ≤ c2 ∧ c2 < 4294967296) (_h3 : 0 ≤ c3 ∧ c3 < 4294967296) (hq : dW % 7 = 1) (hm : dM % 8 = 1) (w : World) : Calls Try.prog 11 #[.agg #[.int .u8 dA, .int .u8 dU, .int .u8 dW, .int .u8 dM, .int .u32 c0, .int .u32 c1, .int .u32 c2, .int .u32 c3]] w (Ret (penAg 1 2 0 0) w) := by
  unfold penAg
  obtain ⟨b1, b2⟩ := hW
  obtain ⟨b3, b4⟩ := hM
  clear _hA _hU _h0 _h1 _h2 _h3
  go_enter Try.func11, Try.ntmps11
  go_wp2_with fail
  go_returns
  exact ⟨rfl, (by repeat' (first | (with_reducible exact Grows.refl _) | (with_reducible refine Grows.alloc ?_ _) | (with_reducible refine Grows.drew ?_) | (with_reducible refine Grows.ext ?_ _ _)))⟩

set_option maxHeartbeats 4000000 in
theorem dpen_2_1 (dA dU dW dM c0 c1 c2 c3 : Int) (_hA : 0 ≤ dA ∧ dA < 256) (_hU : 0 ≤ dU ∧ dU < 256) (hW : 0 ≤ dW ∧ dW < 256) (hM : 0 ≤ dM ∧ dM < 256) (_h0 : 0 ≤ c0 ∧ c0 < 4294967296) (_h1 : 0 ≤ c1 ∧ c1 < 4294967296) (_h2 : 0 ≤ c2 ∧ c2 < 4294967296) (_h3 : 0 ≤ c3 ∧ c3 < 4294967296) (hq : dW % 7 = 2) (hm : dM % 8 = 1) (w : World) : Calls Try.prog 11 #[.agg #[.int .u8 dA, .int .u8 dU, .int .u8 dW, .int .u8 dM, .int .u32 c0, .int .u32 c1, .int .u32 c2, .int .u32 c3]] w (Ret (penAg 2 3 0 0) w) := by
  unfold penAg
  obtain ⟨b1, b2⟩ := hW
  obtain ⟨b3, b4⟩ := hM
  clear _hA _hU _h0 _h1 _h2 _h3
  go_enter Try.func11, Try.ntmps11
  go_wp2_with fail
  go_returns
  exact ⟨rfl, (by repeat' (first | (with_reducible exact Grows.refl _) | (with_reducible refine Grows.alloc ?_ _) | (with_reducible refine Grows.drew ?_) | (with_reducible refine Grows.ext ?_ _ _)))⟩

set_option maxHeartbeats 4000000 in
theorem dpen_1_2 (dA dU dW dM c0 c1 c2 c3 : Int) (_hA : 0 ≤ dA ∧ dA < 256) (_hU : 0 ≤ dU ∧ dU < 256) (hW : 0 ≤ dW ∧ dW < 256) (hM : 0 ≤ dM ∧ dM < 256) (_h0 : 0 ≤ c0 ∧ c0 < 4294967296) (_h1 : 0 ≤ c1 ∧ c1 < 4294967296) (_h2 : 0 ≤ c2 ∧ c2 < 4294967296) (_h3 : 0 ≤ c3 ∧ c3 < 4294967296) (hq : dW % 7 = 1) (hm : dM % 8 = 2) (w : World) : Calls Try.prog 11 #[.agg #[.int .u8 dA, .int .u8 dU, .int .u8 dW, .int .u8 dM, .int .u32 c0, .int .u32 c1, .int .u32 c2, .int .u32 c3]] w (Ret (penAg 1 4 0 0) w) := by
  unfold penAg
  obtain ⟨b1, b2⟩ := hW
  obtain ⟨b3, b4⟩ := hM
  clear _hA _hU _h0 _h1 _h2 _h3
  go_enter Try.func11, Try.ntmps11
  go_wp2_with fail
  go_returns
  exact ⟨rfl, (by repeat' (first | (with_reducible exact Grows.refl _) | (with_reducible refine Grows.alloc ?_ _) | (with_reducible refine Grows.drew ?_) | (with_reducible refine Grows.ext ?_ _ _)))⟩

set_option maxHeartbeats 4000000 in
theorem dpen_2_2 (dA dU dW dM c0 c1 c2 c3 : Int) (_hA : 0 ≤ dA ∧ dA < 256) (_hU : 0 ≤ dU ∧ dU < 256) (hW : 0 ≤ dW ∧ dW < 256) (hM : 0 ≤ dM ∧ dM < 256) (_h0 : 0 ≤ c0 ∧ c0 < 4294967296) (_h1 : 0 ≤ c1 ∧ c1 < 4294967296) (_h2 : 0 ≤ c2 ∧ c2 < 4294967296) (_h3 : 0 ≤ c3 ∧ c3 < 4294967296) (hq : dW % 7 = 2) (hm : dM % 8 = 2) (w : World) : Calls Try.prog 11 #[.agg #[.int .u8 dA, .int .u8 dU, .int .u8 dW, .int .u8 dM, .int .u32 c0, .int .u32 c1, .int .u32 c2, .int .u32 c3]] w (Ret (penAg 2 4 0 0) w) := by
  unfold penAg
  obtain ⟨b1, b2⟩ := hW
  obtain ⟨b3, b4⟩ := hM
  clear _hA _hU _h0 _h1 _h2 _h3
  go_enter Try.func11, Try.ntmps11
  go_wp2_with fail
  go_returns
  exact ⟨rfl, (by repeat' (first | (with_reducible exact Grows.refl _) | (with_reducible refine Grows.alloc ?_ _) | (with_reducible refine Grows.drew ?_) | (with_reducible refine Grows.ext ?_ _ _)))⟩

set_option maxHeartbeats 4000000 in
theorem dpen_1_3 (dA dU dW dM c0 c1 c2 c3 : Int) (_hA : 0 ≤ dA ∧ dA < 256) (_hU : 0 ≤ dU ∧ dU < 256) (hW : 0 ≤ dW ∧ dW < 256) (hM : 0 ≤ dM ∧ dM < 256) (_h0 : 0 ≤ c0 ∧ c0 < 4294967296) (_h1 : 0 ≤ c1 ∧ c1 < 4294967296) (_h2 : 0 ≤ c2 ∧ c2 < 4294967296) (_h3 : 0 ≤ c3 ∧ c3 < 4294967296) (hq : dW % 7 = 1) (hm : dM % 8 = 3) (w : World) : Calls Try.prog 11 #[.agg #[.int .u8 dA, .int .u8 dU, .int .u8 dW, .int .u8 dM, .int .u32 c0, .int .u32 c1, .int .u32 c2, .int .u32 c3]] w (Ret (penAg 1 8 0 0) w) := by
  unfold penAg
  obtain ⟨b1, b2⟩ := hW
  obtain ⟨b3, b4⟩ := hM
  clear _hA _hU _h0 _h1 _h2 _h3
  go_enter Try.func11, Try.ntmps11
  go_wp2_with fail
  go_returns
  exact ⟨rfl, (by repeat' (first | (with_reducible exact Grows.refl _) | (with_reducible refine Grows.alloc ?_ _) | (with_reducible refine Grows.drew ?_) | (with_reducible refine Grows.ext ?_ _ _)))⟩

set_option maxHeartbeats 4000000 in
theorem dpen_2_3 (dA dU dW dM c0 c1 c2 c3 : Int) (_hA : 0 ≤ dA ∧ dA < 256) (_hU : 0 ≤ dU ∧ dU < 256) (hW : 0 ≤ dW ∧ dW < 256) (hM : 0 ≤ dM ∧ dM < 256) (_h0 : 0 ≤ c0 ∧ c0 < 4294967296) (_h1 : 0 ≤ c1 ∧ c1 < 4294967296) (_h2 : 0 ≤ c2 ∧ c2 < 4294967296) (_h3 : 0 ≤ c3 ∧ c3 < 4294967296) (hq : dW % 7 = 2) (hm : dM % 8 = 3) (w : World) : Calls Try.prog 11 #[.agg #[.int .u8 dA, .int .u8 dU, .int .u8 dW, .int .u8 dM, .int .u32 c0, .int .u32 c1, .int .u32 c2, .int .u32 c3]] w (Ret (penAg 2 8 0 0) w) := by
  unfold penAg
  obtain ⟨b1, b2⟩ := hW
  obtain ⟨b3, b4⟩ := hM
  clear _hA _hU _h0 _h1 _h2 _h3
  go_enter Try.func11, Try.ntmps11
  go_wp2_with fail
  go_returns
  exact ⟨rfl, (by repeat' (first | (with_reducible exact Grows.refl _) | (with_reducible refine Grows.alloc ?_ _) | (with_reducible refine Grows.drew ?_) | (with_reducible refine Grows.ext ?_ _ _)))⟩

set_option maxHeartbeats 4000000 in
theorem dpen_1_4 (dA dU dW dM c0 c1 c2 c3 : Int) (_hA : 0 ≤ dA ∧ dA < 256) (_hU : 0 ≤ dU ∧ dU < 256) (hW : 0 ≤ dW ∧ dW < 256) (hM : 0 ≤ dM ∧ dM < 256) (_h0 : 0 ≤ c0 ∧ c0 < 4294967296) (_h1 : 0 ≤ c1 ∧ c1 < 4294967296) (_h2 : 0 ≤ c2 ∧ c2 < 4294967296) (_h3 : 0 ≤ c3 ∧ c3 < 4294967296) (hq : dW % 7 = 1) (hm : dM % 8 = 4) (w : World) : Calls Try.prog 11 #[.agg #[.int .u8 dA, .int .u8 dU, .int .u8 dW, .int .u8 dM, .int .u32 c0, .int .u32 c1, .int .u32 c2, .int .u32 c3]] w (Ret (penAg 1 16 0 0) w) := by
  unfold penAg
  obtain ⟨b1, b2⟩ := hW
  obtain ⟨b3, b4⟩ := hM
  clear _hA _hU _h0 _h1 _h2 _h3
  go_enter Try.func11, Try.ntmps11
  go_wp2_with fail
  go_returns
  exact ⟨rfl, (by repeat' (first | (with_reducible exact Grows.refl _) | (with_reducible refine Grows.alloc ?_ _) | (with_reducible refine Grows.drew ?_) | (with_reducible refine Grows.ext ?_ _ _)))⟩

set_option maxHeartbeats 4000000 in
theorem dpen_2_4 (dA dU dW dM c0 c1 c2 c3 : Int) (_hA : 0 ≤ dA ∧ dA < 256) (_hU : 0 ≤ dU ∧ dU < 256) (hW : 0 ≤ dW ∧ dW < 256) (hM : 0 ≤ dM ∧ dM < 256) (_h0 : 0 ≤ c0 ∧ c0 < 4294967296) (_h1 : 0 ≤ c1 ∧ c1 < 4294967296) (_h2 : 0 ≤ c2 ∧ c2 < 4294967296) (_h3 : 0 ≤ c3 ∧ c3 < 4294967296) (hq : dW % 7 = 2) (hm : dM % 8 = 4) (w : World) : Calls Try.prog 11 #[.agg #[.int .u8 dA, .int .u8 dU, .int .u8 dW, .int .u8 dM, .int .u32 c0, .int .u32 c1, .int .u32 c2, .int .u32 c3]] w (Ret (penAg 2 16 0 0) w) := by
  unfold penAg
  obtain ⟨b1, b2⟩ := hW
  obtain ⟨b3, b4⟩ := hM
  clear _hA _hU _h0 _h1 _h2 _h3
  go_enter Try.func11, Try.ntmps11
  go_wp2_with fail
  go_returns
  exact ⟨rfl, (by repeat' (first | (with_reducible exact Grows.refl _) | (with_reducible refine Grows.alloc ?_ _) | (with_reducible refine Grows.drew ?_) | (with_reducible refine Grows.ext ?_ _ _)))⟩

set_option maxHeartbeats 4000000 in
theorem dpen_1_5 (dA dU dW dM c0 c1 c2 c3 : Int) (_hA : 0 ≤ dA ∧ dA < 256) (_hU : 0 ≤ dU ∧ dU < 256) (hW : 0 ≤ dW ∧ dW < 256) (hM : 0 ≤ dM ∧ dM < 256) (_h0 : 0 ≤ c0 ∧ c0 < 4294967296) (_h1 : 0 ≤ c1 ∧ c1 < 4294967296) (_h2 : 0 ≤ c2 ∧ c2 < 4294967296) (_h3 : 0 ≤ c3 ∧ c3 < 4294967296) (hq : dW % 7 = 1) (hm : dM % 8 = 5) (w : World) : Calls Try.prog 11 #[.agg #[.int .u8 dA, .int .u8 dU, .int .u8 dW, .int .u8 dM, .int .u32 c0, .int .u32 c1, .int .u32 c2, .int .u32 c3]] w (Ret (penAg 1 32 0 0) w) := by
  unfold penAg
  obtain ⟨b1, b2⟩ := hW
  obtain ⟨b3, b4⟩ := hM
  clear _hA _hU _h0 _h1 _h2 _h3
  go_enter Try.func11, Try.ntmps11
  go_wp2_with fail
  go_returns
  exact ⟨rfl, (by repeat' (first | (with_reducible exact Grows.refl _) | (with_reducible refine Grows.alloc ?_ _) | (with_reducible refine Grows.drew ?_) | (with_reducible refine Grows.ext ?_ _ _)))⟩

set_option maxHeartbeats 4000000 in
theorem dpen_2_5 (dA dU dW dM c0 c1 c2 c3 : Int) (_hA : 0 ≤ dA ∧ dA < 256) (_hU : 0 ≤ dU ∧ dU < 256) (hW : 0 ≤ dW ∧ dW < 256) (hM : 0 ≤ dM ∧ dM < 256) (_h0 : 0 ≤ c0 ∧ c0 < 4294967296) (_h1 : 0 ≤ c1 ∧ c1 < 4294967296) (_h2 : 0 ≤ c2 ∧ c2 < 4294967296) (_h3 : 0 ≤ c3 ∧ c3 < 4294967296) (hq : dW % 7 = 2) (hm : dM % 8 = 5) (w : World) : Calls Try.prog 11 #[.agg #[.int .u8 dA, .int .u8 dU, .int .u8 dW, .int .u8 dM, .int .u32 c0, .int .u32 c1, .int .u32 c2, .int .u32 c3]] w (Ret (penAg 2 32 0 0) w) := by
  unfold penAg
  obtain ⟨b1, b2⟩ := hW
  obtain ⟨b3, b4⟩ := hM
  clear _hA _hU _h0 _h1 _h2 _h3
  go_enter Try.func11, Try.ntmps11
  go_wp2_with fail
  go_returns
  exact ⟨rfl, (by repeat' (first | (with_reducible exact Grows.refl _) | (with_reducible refine Grows.alloc ?_ _) | (with_reducible refine Grows.drew ?_) | (with_reducible refine Grows.ext ?_ _ _)))⟩

set_option maxHeartbeats 4000000 in
theorem dpen_1_6 (dA dU dW dM c0 c1 c2 c3 : Int) (_hA : 0 ≤ dA ∧ dA < 256) (_hU : 0 ≤ dU ∧ dU < 256) (hW : 0 ≤ dW ∧ dW < 256) (hM : 0 ≤ dM ∧ dM < 256) (_h0 : 0 ≤ c0 ∧ c0 < 4294967296) (_h1 : 0 ≤ c1 ∧ c1 < 4294967296) (_h2 : 0 ≤ c2 ∧ c2 < 4294967296) (_h3 : 0 ≤ c3 ∧ c3 < 4294967296) (hq : dW % 7 = 1) (hm : dM % 8 = 6) (w : World) : Calls Try.prog 11 #[.agg #[.int .u8 dA, .int .u8 dU, .int .u8 dW, .int .u8 dM, .int .u32 c0, .int .u32 c1, .int .u32 c2, .int .u32 c3]] w (Ret (penAg 1 64 0 0) w) := by
  unfold penAg
  obtain ⟨b1, b2⟩ := hW
  obtain ⟨b3, b4⟩ := hM
  clear _hA _hU _h0 _h1 _h2 _h3
  go_enter Try.func11, Try.ntmps11
  go_wp2_with fail
  go_returns
  exact ⟨rfl, (by repeat' (first | (with_reducible exact Grows.refl _) | (with_reducible refine Grows.alloc ?_ _) | (with_reducible refine Grows.drew ?_) | (with_reducible refine Grows.ext ?_ _ _)))⟩

set_option maxHeartbeats 4000000 in
theorem dpen_2_6 (dA dU dW dM c0 c1 c2 c3 : Int) (_hA : 0 ≤ dA ∧ dA < 256) (_hU : 0 ≤ dU ∧ dU < 256) (hW : 0 ≤ dW ∧ dW < 256) (hM : 0 ≤ dM ∧ dM < 256) (_h0 : 0 ≤ c0 ∧ c0 < 4294967296) (_h1 : 0 ≤ c1 ∧ c1 < 4294967296) (_h2 : 0 ≤ c2 ∧ c2 < 4294967296) (_h3 : 0 ≤ c3 ∧ c3 < 4294967296) (hq : dW % 7 = 2) (hm : dM % 8 = 6) (w : World) : Calls Try.prog 11 #[.agg #[.int .u8 dA, .int .u8 dU, .int .u8 dW, .int .u8 dM, .int .u32 c0, .int .u32 c1, .int .u32 c2, .int .u32 c3]] w (Ret (penAg 2 64 0 0) w) := by
  unfold penAg
  obtain ⟨b1, b2⟩ := hW
  obtain ⟨b3, b4⟩ := hM
  clear _hA _hU _h0 _h1 _h2 _h3
  go_enter Try.func11, Try.ntmps11
  go_wp2_with fail
  go_returns
  exact ⟨rfl, (by repeat' (first | (with_reducible exact Grows.refl _) | (with_reducible refine Grows.alloc ?_ _) | (with_reducible refine Grows.drew ?_) | (with_reducible refine Grows.ext ?_ _ _)))⟩

set_option maxHeartbeats 4000000 in
theorem dpen_1_7 (dA dU dW dM c0 c1 c2 c3 : Int) (_hA : 0 ≤ dA ∧ dA < 256) (_hU : 0 ≤ dU ∧ dU < 256) (hW : 0 ≤ dW ∧ dW < 256) (hM : 0 ≤ dM ∧ dM < 256) (_h0 : 0 ≤ c0 ∧ c0 < 4294967296) (_h1 : 0 ≤ c1 ∧ c1 < 4294967296) (_h2 : 0 ≤ c2 ∧ c2 < 4294967296) (_h3 : 0 ≤ c3 ∧ c3 < 4294967296) (hq : dW % 7 = 1) (hm : dM % 8 = 7) (w : World) : Calls Try.prog 11 #[.agg #[.int .u8 dA, .int .u8 dU, .int .u8 dW, .int .u8 dM, .int .u32 c0, .int .u32 c1, .int .u32 c2, .int .u32 c3]] w (Ret (penAg 1 128 0 0) w) := by
  unfold penAg
  obtain ⟨b1, b2⟩ := hW
  obtain ⟨b3, b4⟩ := hM
  clear _hA _hU _h0 _h1 _h2 _h3
  go_enter Try.func11, Try.ntmps11
  go_wp2_with fail
  go_returns
  exact ⟨rfl, (by repeat' (first | (with_reducible exact Grows.refl _) | (with_reducible refine Grows.alloc ?_ _) | (with_reducible refine Grows.drew ?_) | (with_reducible refine Grows.ext ?_ _ _)))⟩

set_option maxHeartbeats 4000000 in
theorem dpen_2_7 (dA dU dW dM c0 c1 c2 c3 : Int) (_hA : 0 ≤ dA ∧ dA < 256) (_hU : 0 ≤ dU ∧ dU < 256) (hW : 0 ≤ dW ∧ dW < 256) (hM : 0 ≤ dM ∧ dM < 256) (_h0 : 0 ≤ c0 ∧ c0 < 4294967296) (_h1 : 0 ≤ c1 ∧ c1 < 4294967296) (_h2 : 0 ≤ c2 ∧ c2 < 4294967296) (_h3 : 0 ≤ c3 ∧ c3 < 4294967296) (hq : dW % 7 = 2) (hm : dM % 8 = 7) (w : World) : Calls Try.prog 11 #[.agg #[.int .u8 dA, .int .u8 dU, .int .u8 dW, .int .u8 dM, .int .u32 c0, .int .u32 c1, .int .u32 c2, .int .u32 c3]] w (Ret (penAg 2 128 0 0) w) := by
  unfold penAg
  obtain ⟨b1, b2⟩ := hW
  obtain ⟨b3, b4⟩ := hM
  clear _hA _hU _h0 _h1 _h2 _h3
  go_enter Try.func11, Try.ntmps11
  go_wp2_with fail
  go_returns
  exact ⟨rfl, (by repeat' (first | (with_reducible exact Grows.refl _) | (with_reducible refine Grows.alloc ?_ _) | (with_reducible refine Grows.drew ?_) | (with_reducible refine Grows.ext ?_ _ _)))⟩

set_option maxHeartbeats 4000000 in
theorem dpen_3 (dA dU dW dM c0 c1 c2 c3 : Int) (_hA : 0 ≤ dA ∧ dA < 256) (_hU : 0 ≤ dU ∧ dU < 256) (hW : 0 ≤ dW ∧ dW < 256) (hM : 0 ≤ dM ∧ dM < 256) (_h0 : 0 ≤ c0 ∧ c0 < 4294967296) (_h1 : 0 ≤ c1 ∧ c1 < 4294967296) (_h2 : 0 ≤ c2 ∧ c2 < 4294967296) (_h3 : 0 ≤ c3 ∧ c3 < 4294967296) (hq : dW % 7 = 3) (w : World) : Calls Try.prog 11 #[.agg #[.int .u8 dA, .int .u8 dU, .int .u8 dW, .int .u8 dM, .int .u32 c0, .int .u32 c1, .int .u32 c2, .int .u32 c3]] w (Ret (penAg 3 (dM % 6) 0 0) w) := by
  unfold penAg
  obtain ⟨b1, b2⟩ := hW
  obtain ⟨b3, b4⟩ := hM
  clear _hA _hU _h0 _h1 _h2 _h3
  go_enter Try.func11, Try.ntmps11
  go_wp2_with fail
  go_returns
  exact ⟨rfl, (by repeat' (first | (with_reducible exact Grows.refl _) | (with_reducible refine Grows.alloc ?_ _) | (with_reducible refine Grows.drew ?_) | (with_reducible refine Grows.ext ?_ _ _)))⟩

set_option maxHeartbeats 4000000 in
theorem dpen_4 (dA dU dW dM c0 c1 c2 c3 : Int) (_hA : 0 ≤ dA ∧ dA < 256) (_hU : 0 ≤ dU ∧ dU < 256) (hW : 0 ≤ dW ∧ dW < 256) (hM : 0 ≤ dM ∧ dM < 256) (_h0 : 0 ≤ c0 ∧ c0 < 4294967296) (_h1 : 0 ≤ c1 ∧ c1 < 4294967296) (_h2 : 0 ≤ c2 ∧ c2 < 4294967296) (h3 : 0 ≤ c3 ∧ c3 < 4294967296) (hq : dW % 7 = 4) (w : World) : Calls Try.prog 11 #[.agg #[.int .u8 dA, .int .u8 dU, .int .u8 dW, .int .u8 dM, .int .u32 c0, .int .u32 c1, .int .u32 c2, .int .u32 c3]] w (Ret (penAg 4 0 (colK c3) (colN c3)) w) := by
  unfold penAg
  have Hc := Lib.hid fun W => col_any c3 h3 W
  generalize colK c3 = k3 at *
  generalize colN c3 = n3 at *
  obtain ⟨b1, b2⟩ := hW
  obtain ⟨b3, b4⟩ := hM
  clear _hA _hU _h0 _h1 _h2 h3
  go_enter Try.func11, Try.ntmps11
  go_wp2_with (go_at_call 28; (with_reducible refine (Hc.out _).mono ?_); rintro e w' ⟨rfl, h1, d1, rfl⟩)
  go_returns
  exact ⟨rfl, (by repeat' (first | (with_reducible exact Grows.refl _) | (with_reducible refine Grows.alloc ?_ _) | (with_reducible refine Grows.drew ?_) | (with_reducible refine Grows.ext ?_ _ _)))⟩

set_option maxHeartbeats 4000000 in
theorem dpen_5 (dA dU dW dM c0 c1 c2 c3 : Int) (_hA : 0 ≤ dA ∧ dA < 256) (_hU : 0 ≤ dU ∧ dU < 256) (hW : 0 ≤ dW ∧ dW < 256) (hM : 0 ≤ dM ∧ dM < 256) (_h0 : 0 ≤ c0 ∧ c0 < 4294967296) (_h1 : 0 ≤ c1 ∧ c1 < 4294967296) (_h2 : 0 ≤ c2 ∧ c2 < 4294967296) (h3 : 0 ≤ c3 ∧ c3 < 4294967296) (hq : dW % 7 = 5) (w : World) : Calls Try.prog 11 #[.agg #[.int .u8 dA, .int .u8 dU, .int .u8 dW, .int .u8 dM, .int .u32 c0, .int .u32 c1, .int .u32 c2, .int .u32 c3]] w (Ret (penAg 5 0 (colK c3) (colN c3)) w) := by
  unfold penAg
  have Hc := Lib.hid fun W => col_any c3 h3 W
  generalize colK c3 = k3 at *
  generalize colN c3 = n3 at *
  obtain ⟨b1, b2⟩ := hW
  obtain ⟨b3, b4⟩ := hM
  clear _hA _hU _h0 _h1 _h2 h3
  go_enter Try.func11, Try.ntmps11
  go_wp2_with (go_at_call 28; (with_reducible refine (Hc.out _).mono ?_); rintro e w' ⟨rfl, h1, d1, rfl⟩)
  go_returns
  exact ⟨rfl, (by repeat' (first | (with_reducible exact Grows.refl _) | (with_reducible refine Grows.alloc ?_ _) | (with_reducible refine Grows.drew ?_) | (with_reducible refine Grows.ext ?_ _ _)))⟩

set_option maxHeartbeats 4000000 in
theorem dpen_6 (dA dU dW dM c0 c1 c2 c3 : Int) (_hA : 0 ≤ dA ∧ dA < 256) (_hU : 0 ≤ dU ∧ dU < 256) (hW : 0 ≤ dW ∧ dW < 256) (hM : 0 ≤ dM ∧ dM < 256) (_h0 : 0 ≤ c0 ∧ c0 < 4294967296) (_h1 : 0 ≤ c1 ∧ c1 < 4294967296) (_h2 : 0 ≤ c2 ∧ c2 < 4294967296) (h3 : 0 ≤ c3 ∧ c3 < 4294967296) (hq : dW % 7 = 6) (w : World) : Calls Try.prog 11 #[.agg #[.int .u8 dA, .int .u8 dU, .int .u8 dW, .int .u8 dM, .int .u32 c0, .int .u32 c1, .int .u32 c2, .int .u32 c3]] w (Ret (penAg 6 0 (colK c3) (colN c3)) w) := by
  unfold penAg
  have Hc := Lib.hid fun W => col_any c3 h3 W
  generalize colK c3 = k3 at *
  generalize colN c3 = n3 at *
  obtain ⟨b1, b2⟩ := hW
  obtain ⟨b3, b4⟩ := hM
  clear _hA _hU _h0 _h1 _h2 h3
  go_enter Try.func11, Try.ntmps11
  go_wp2_with (go_at_call 28; (with_reducible refine (Hc.out _).mono ?_); rintro e w' ⟨rfl, h1, d1, rfl⟩)
  go_returns
  exact ⟨rfl, (by repeat' (first | (with_reducible exact Grows.refl _) | (with_reducible refine Grows.alloc ?_ _) | (with_reducible refine Grows.drew ?_) | (with_reducible refine Grows.ext ?_ _ _)))⟩

theorem dpen_any (dA dU dW dM c0 c1 c2 c3 : Int) (hA : 0 ≤ dA ∧ dA < 256) (hU : 0 ≤ dU ∧ dU < 256) (hW : 0 ≤ dW ∧ dW < 256) (hM : 0 ≤ dM ∧ dM < 256) (h0 : 0 ≤ c0 ∧ c0 < 4294967296) (h1 : 0 ≤ c1 ∧ c1 < 4294967296) (h2 : 0 ≤ c2 ∧ c2 < 4294967296) (h3 : 0 ≤ c3 ∧ c3 < 4294967296) : ∃ n m ck cn : Int, In64 m ∧ ∀ W, Calls Try.prog 11 #[.agg #[.int .u8 dA, .int .u8 dU, .int .u8 dW, .int .u8 dM, .int .u32 c0, .int .u32 c1, .int .u32 c2, .int .u32 c3]] W (Ret (penAg n m ck cn) W) := by
  have hq : dW % 7 = 0 ∨ dW % 7 = 1 ∨ dW % 7 = 2 ∨ dW % 7 = 3 ∨ dW % 7 = 4 ∨ dW % 7 = 5 ∨ dW % 7 = 6 := by omega
  have hm : dM % 8 = 0 ∨ dM % 8 = 1 ∨ dM % 8 = 2 ∨ dM % 8 = 3 ∨ dM % 8 = 4 ∨ dM % 8 = 5 ∨ dM % 8 = 6 ∨ dM % 8 = 7 := by omega
  rcases hq with hq | hq | hq | hq | hq | hq | hq
  · exact ⟨_, _, _, _, by unfold In64; omega, fun W => dpen_0 dA dU dW dM c0 c1 c2 c3 hA hU hW hM h0 h1 h2 h3 hq W⟩
  · rcases hm with hm | hm | hm | hm | hm | hm | hm | hm
    · exact ⟨_, _, _, _, by unfold In64; omega, fun W => dpen_1_0 dA dU dW dM c0 c1 c2 c3 hA hU hW hM h0 h1 h2 h3 hq hm W⟩
    · exact ⟨_, _, _, _, by unfold In64; omega, fun W => dpen_1_1 dA dU dW dM c0 c1 c2 c3 hA hU hW hM h0 h1 h2 h3 hq hm W⟩
    · exact ⟨_, _, _, _, by unfold In64; omega, fun W => dpen_1_2 dA dU dW dM c0 c1 c2 c3 hA hU hW hM h0 h1 h2 h3 hq hm W⟩
    · exact ⟨_, _, _, _, by unfold In64; omega, fun W => dpen_1_3 dA dU dW dM c0 c1 c2 c3 hA hU hW hM h0 h1 h2 h3 hq hm W⟩
    · exact ⟨_, _, _, _, by unfold In64; omega, fun W => dpen_1_4 dA dU dW dM c0 c1 c2 c3 hA hU hW hM h0 h1 h2 h3 hq hm W⟩
    · exact ⟨_, _, _, _, by unfold In64; omega, fun W => dpen_1_5 dA dU dW dM c0 c1 c2 c3 hA hU hW hM h0 h1 h2 h3 hq hm W⟩
    · exact ⟨_, _, _, _, by unfold In64; omega, fun W => dpen_1_6 dA dU dW dM c0 c1 c2 c3 hA hU hW hM h0 h1 h2 h3 hq hm W⟩
    · exact ⟨_, _, _, _, by unfold In64; omega, fun W => dpen_1_7 dA dU dW dM c0 c1 c2 c3 hA hU hW hM h0 h1 h2 h3 hq hm W⟩
  · rcases hm with hm | hm | hm | hm | hm | hm | hm | hm
    · exact ⟨_, _, _, _, by unfold In64; omega, fun W => dpen_2_0 dA dU dW dM c0 c1 c2 c3 hA hU hW hM h0 h1 h2 h3 hq hm W⟩
    · exact ⟨_, _, _, _, by unfold In64; omega, fun W => dpen_2_1 dA dU dW dM c0 c1 c2 c3 hA hU hW hM h0 h1 h2 h3 hq hm W⟩
    · exact ⟨_, _, _, _, by unfold In64; omega, fun W => dpen_2_2 dA dU dW dM c0 c1 c2 c3 hA hU hW hM h0 h1 h2 h3 hq hm W⟩
    · exact ⟨_, _, _, _, by unfold In64; omega, fun W => dpen_2_3 dA dU dW dM c0 c1 c2 c3 hA hU hW hM h0 h1 h2 h3 hq hm W⟩
    · exact ⟨_, _, _, _, by unfold In64; omega, fun W => dpen_2_4 dA dU dW dM c0 c1 c2 c3 hA hU hW hM h0 h1 h2 h3 hq hm W⟩
    · exact ⟨_, _, _, _, by unfold In64; omega, fun W => dpen_2_5 dA dU dW dM c0 c1 c2 c3 hA hU hW hM h0 h1 h2 h3 hq hm W⟩
    · exact ⟨_, _, _, _, by unfold In64; omega, fun W => dpen_2_6 dA dU dW dM c0 c1 c2 c3 hA hU hW hM h0 h1 h2 h3 hq hm W⟩
    · exact ⟨_, _, _, _, by unfold In64; omega, fun W => dpen_2_7 dA dU dW dM c0 c1 c2 c3 hA hU hW hM h0 h1 h2 h3 hq hm W⟩
  · exact ⟨3, dM % 6, 0, 0, by unfold In64; omega, fun W => dpen_3 dA dU dW dM c0 c1 c2 c3 hA hU hW hM h0 h1 h2 h3 hq W⟩
  · exact ⟨4, 0, colK c3, colN c3, by unfold In64; omega, fun W => dpen_4 dA dU dW dM c0 c1 c2 c3 hA hU hW hM h0 h1 h2 h3 hq W⟩
  · exact ⟨5, 0, colK c3, colN c3, by unfold In64; omega, fun W => dpen_5 dA dU dW dM c0 c1 c2 c3 hA hU hW hM h0 h1 h2 h3 hq W⟩
  · exact ⟨6, 0, colK c3, colN c3, by unfold In64; omega, fun W => dpen_6 dA dU dW dM c0 c1 c2 c3 hA hU hW hM h0 h1 h2 h3 hq W⟩
end Go.Proofs.Ytafokiobbceibaa
