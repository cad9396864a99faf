/-
  Walks: Move at each way.
-/
import Derived.Test.YtepbknpdhiaepaaRows
import Derived.Test.YtepbknpdhiaepaaLt
import Derived.Test.YtepbknpdhiaepaaDefs
import Derived.Test.YtepbknpdhiaepaaW1
import Derived.Test.YtepbknpdhiaepaaW2
import Derived.Test.YtepbknpdhiaepaaW3
import Derived.Test.YtepbknpdhiaepaaW5
import Derived.Test.YtepbknpdhiaepaaW6
import Derived.Test.YtepbknpdhiaepaaW7
import Derived.Test.YtepbknpdhiaepaaW8
import Derived.Test.YtepbknpdhiaepaaW9
import Derived.WalkKit
import Derived.WalkSpells
import Derived.WalkLawsBesides
import Derived.Handy
import Derived.Lib.Hide
import Derived.Deep.Light
import Derived.Deep.LoopGhost
import Derived.BigGuardPart
import Derived.BigQuiet
import Derived.Deep.QuietTactic
import Derived.Deep.RegionHeld3
import Derived.Test.YtepbknpdhiaepaaReg
import Derived.Test.YtepbknpdhiaepaaReg3
namespace Go.Proofs.Ytepbknpdhiaepaa
open Go.RowKit


set_option maxHeartbeats 1000000 in
theorem move3_0 (C : Nat) (Bw By Bn Bf : Nat) (r c t b x y n : Int) (o wr : Bool) (h : okF r c t b = true) (h2 : atB r c x y wr = true) (hn : 0 ≤ n ∧ n ≤ 200) (w : World) (hC : CurAt w C x y false) (hW : WaysAt w Bw Bf r c t b o) (hy : IntAt w By 0) (hN : IntAt w Bn n) (_hF : FldAt w Bf r c t b o) :
    Calls Try.prog 53 #[.pointer (some ⟨C, 0, none⟩), .pointer (some ⟨Bw, 0, none⟩), .pointer (some ⟨By, 0, none⟩), .pointer (some ⟨Bn, 0, none⟩)] w (fun e w' => e = .returned (.tuple #[]) ∧ Grows (w.setCell ⟨C, 0, none⟩ (.int .i64 (upRow t x n))) w') := by
  have c0 := hC.1
  obtain ⟨p0, p1, p2, p3, p4⟩ := hW
  obtain ⟨q0, q1⟩ := hy
  obtain ⟨n0, n1⟩ := hN
  go_enter Try.func53, Try.ntmps53
  refine wp_region_grow_tail 5 (by kernel_rfl) (by kernel_rfl) ?_
  simp only [List.take_succ_cons, List.take_zero, List.drop_succ_cons, List.drop_zero]
  repeat (first | go_big_quiet_step ((fail)) | quiet_step ((fail)))
  refine wpQuiet_nil ?_
  rintro _ ⟨g30, rfl⟩
  go_wp2_with fail
  refine (up_any _ r c t b x y n o wr h h2 hn _ (hC.grows (by repeat' (first | (with_reducible exact Grows.refl _) | (with_reducible refine Grows.alloc ?_ _) | (with_reducible refine Grows.drew ?_) | (with_reducible refine Grows.ext ?_ _ _))))).mono ?_
  rintro e w' ⟨rfl, h0, d0, rfl⟩
  go_wp2
  go_returns
  refine ⟨rfl, ?_⟩
  first | ((repeat' (first | (with_reducible exact Grows.refl _) | (with_reducible refine Grows.alloc ?_ _) | (with_reducible refine Grows.drew ?_) | (with_reducible refine Grows.ext ?_ _ _))); done) | (refine Grows.setIn ?_ c0 _; ((repeat' (first | (with_reducible exact Grows.refl _) | (with_reducible refine Grows.alloc ?_ _) | (with_reducible refine Grows.drew ?_) | (with_reducible refine Grows.ext ?_ _ _))); done))

set_option maxHeartbeats 1000000 in
theorem move3_1 (C : Nat) (Bw By Bn Bf : Nat) (r c t b x y n : Int) (o wr : Bool) (h : okF r c t b = true) (h2 : atB r c x y wr = true) (hn : 0 ≤ n ∧ n ≤ 200) (w : World) (hC : CurAt w C x y false) (hW : WaysAt w Bw Bf r c t b o) (hy : IntAt w By 1) (hN : IntAt w Bn n) (_hF : FldAt w Bf r c t b o) :
    Calls Try.prog 53 #[.pointer (some ⟨C, 0, none⟩), .pointer (some ⟨Bw, 0, none⟩), .pointer (some ⟨By, 0, none⟩), .pointer (some ⟨Bn, 0, none⟩)] w (fun e w' => e = .returned (.tuple #[]) ∧ Grows (w.setCell ⟨C, 0, none⟩ (.int .i64 (downRow r b x n))) w') := by
  have c0 := hC.1
  obtain ⟨p0, p1, p2, p3, p4⟩ := hW
  obtain ⟨q0, q1⟩ := hy
  obtain ⟨n0, n1⟩ := hN
  go_enter Try.func53, Try.ntmps53
  refine wp_region_grow_tail 5 (by kernel_rfl) (by kernel_rfl) ?_
  simp only [List.take_succ_cons, List.take_zero, List.drop_succ_cons, List.drop_zero]
  repeat (first | go_big_quiet_step ((fail)) | quiet_step ((fail)))
  refine wpQuiet_nil ?_
  rintro _ ⟨g31, rfl⟩
  go_wp2_with fail
  refine (down_any _ r c t b x y n o wr h h2 hn _ (hC.grows (by repeat' (first | (with_reducible exact Grows.refl _) | (with_reducible refine Grows.alloc ?_ _) | (with_reducible refine Grows.drew ?_) | (with_reducible refine Grows.ext ?_ _ _))))).mono ?_
  rintro e w' ⟨rfl, h0, d0, rfl⟩
  go_wp2
  go_returns
  refine ⟨rfl, ?_⟩
  first | ((repeat' (first | (with_reducible exact Grows.refl _) | (with_reducible refine Grows.alloc ?_ _) | (with_reducible refine Grows.drew ?_) | (with_reducible refine Grows.ext ?_ _ _))); done) | (refine Grows.setIn ?_ c0 _; ((repeat' (first | (with_reducible exact Grows.refl _) | (with_reducible refine Grows.alloc ?_ _) | (with_reducible refine Grows.drew ?_) | (with_reducible refine Grows.ext ?_ _ _))); done))

set_option maxHeartbeats 1000000 in
theorem move3_2 (C : Nat) (Bw By Bn Bf : Nat) (r c t b x y n : Int) (o wr : Bool) (h : okF r c t b = true) (h2 : atB r c x y wr = true) (hn : 0 ≤ n ∧ n ≤ 200) (w : World) (hC : CurAt w C x y false) (hW : WaysAt w Bw Bf r c t b o) (hy : IntAt w By 2) (hN : IntAt w Bn n) (hF : FldAt w Bf r c t b o) :
    Calls Try.prog 53 #[.pointer (some ⟨C, 0, none⟩), .pointer (some ⟨Bw, 0, none⟩), .pointer (some ⟨By, 0, none⟩), .pointer (some ⟨Bn, 0, none⟩)] w (fun e w' => e = .returned (.tuple #[]) ∧ Grows (w.setCell ⟨C, 1, none⟩ (.int .i64 (cl (y + n) 0 (c - 1)))) w') := by
  have c0 := hC.1
  obtain ⟨p0, p1, p2, p3, p4⟩ := hW
  obtain ⟨q0, q1⟩ := hy
  obtain ⟨n0, n1⟩ := hN
  go_enter Try.func53, Try.ntmps53
  refine wp_region_grow_tail 5 (by kernel_rfl) (by kernel_rfl) ?_
  simp only [List.take_succ_cons, List.take_zero, List.drop_succ_cons, List.drop_zero]
  repeat (first | go_big_quiet_step ((fail)) | quiet_step ((fail)))
  refine wpQuiet_nil ?_
  rintro _ ⟨g32, rfl⟩
  go_wp2_with fail
  refine (mright_any _ _ r c t b x y n o wr h h2 hn _ (hC.grows (by repeat' (first | (with_reducible exact Grows.refl _) | (with_reducible refine Grows.alloc ?_ _) | (with_reducible refine Grows.drew ?_) | (with_reducible refine Grows.ext ?_ _ _)))) (hF.grows (by repeat' (first | (with_reducible exact Grows.refl _) | (with_reducible refine Grows.alloc ?_ _) | (with_reducible refine Grows.drew ?_) | (with_reducible refine Grows.ext ?_ _ _))))).mono ?_
  rintro e w' ⟨rfl, h0, d0, rfl⟩
  go_wp2
  go_returns
  refine ⟨rfl, ?_⟩
  first | ((repeat' (first | (with_reducible exact Grows.refl _) | (with_reducible refine Grows.alloc ?_ _) | (with_reducible refine Grows.drew ?_) | (with_reducible refine Grows.ext ?_ _ _))); done) | (refine Grows.setIn ?_ c0 _; ((repeat' (first | (with_reducible exact Grows.refl _) | (with_reducible refine Grows.alloc ?_ _) | (with_reducible refine Grows.drew ?_) | (with_reducible refine Grows.ext ?_ _ _))); done))

set_option maxHeartbeats 1000000 in
theorem move3_3 (C : Nat) (Bw By Bn Bf : Nat) (r c t b x y n : Int) (o wr : Bool) (h : okF r c t b = true) (h2 : atB r c x y wr = true) (hn : 0 ≤ n ∧ n ≤ 200) (w : World) (hC : CurAt w C x y false) (hW : WaysAt w Bw Bf r c t b o) (hy : IntAt w By 3) (hN : IntAt w Bn n) (hF : FldAt w Bf r c t b o) :
    Calls Try.prog 53 #[.pointer (some ⟨C, 0, none⟩), .pointer (some ⟨Bw, 0, none⟩), .pointer (some ⟨By, 0, none⟩), .pointer (some ⟨Bn, 0, none⟩)] w (fun e w' => e = .returned (.tuple #[]) ∧ Grows (w.setCell ⟨C, 1, none⟩ (.int .i64 (cl (y - n) 0 (c - 1)))) w') := by
  have c0 := hC.1
  obtain ⟨p0, p1, p2, p3, p4⟩ := hW
  obtain ⟨q0, q1⟩ := hy
  obtain ⟨n0, n1⟩ := hN
  go_enter Try.func53, Try.ntmps53
  refine wp_region_grow_tail 5 (by kernel_rfl) (by kernel_rfl) ?_
  simp only [List.take_succ_cons, List.take_zero, List.drop_succ_cons, List.drop_zero]
  repeat (first | go_big_quiet_step ((fail)) | quiet_step ((fail)))
  refine wpQuiet_nil ?_
  rintro _ ⟨g33, rfl⟩
  go_wp2_with fail
  refine (mleft_any _ _ r c t b x y n o wr h h2 hn _ (hC.grows (by repeat' (first | (with_reducible exact Grows.refl _) | (with_reducible refine Grows.alloc ?_ _) | (with_reducible refine Grows.drew ?_) | (with_reducible refine Grows.ext ?_ _ _)))) (hF.grows (by repeat' (first | (with_reducible exact Grows.refl _) | (with_reducible refine Grows.alloc ?_ _) | (with_reducible refine Grows.drew ?_) | (with_reducible refine Grows.ext ?_ _ _))))).mono ?_
  rintro e w' ⟨rfl, h0, d0, rfl⟩
  go_wp2
  go_returns
  refine ⟨rfl, ?_⟩
  first | ((repeat' (first | (with_reducible exact Grows.refl _) | (with_reducible refine Grows.alloc ?_ _) | (with_reducible refine Grows.drew ?_) | (with_reducible refine Grows.ext ?_ _ _))); done) | (refine Grows.setIn ?_ c0 _; ((repeat' (first | (with_reducible exact Grows.refl _) | (with_reducible refine Grows.alloc ?_ _) | (with_reducible refine Grows.drew ?_) | (with_reducible refine Grows.ext ?_ _ _))); done))

set_option maxHeartbeats 1000000 in
theorem told_move0 (Bw By Bn Bf : Nat) (r c t b x y n : Int) (o wr : Bool) (h : okF r c t b = true) (h2 : atB r c x y wr = true) (hn : 0 ≤ n ∧ n ≤ 200) (w : World) (hW : WaysAt w Bw Bf r c t b o) (hy : IntAt w By 0) (hN : IntAt w Bn n) (hF : FldAt w Bf r c t b o) :
    Calls Try.prog 52 #[.agg #[.int .i64 r, .int .i64 c, .int .i64 t, .int .i64 b, .bool o], .agg #[.int .i64 x, .int .i64 y, .bool wr], .func (.func 53) #[] #[.pointer (some ⟨Bw, 0, none⟩), .pointer (some ⟨By, 0, none⟩), .pointer (some ⟨Bn, 0, none⟩)]] w (Ret (.tuple #[.agg #[.int .i64 (upRow t x n), .int .i64 y, .bool false], .int .i64 0]) w) := by
  go_enter Try.func52, Try.ntmps52
  go_wp2_with (first | (go_at_call 34; refine (checkAt_any _ _ _ _ _ _ _ _ _).mono ?_; rintro e w' ⟨rfl, h34, d34, rfl⟩))
  refine (move3_0 _ Bw By Bn Bf r c t b x y n o wr h h2 hn _ ?_ (hW.grows (by repeat' (first | (with_reducible exact Grows.refl _) | (with_reducible refine Grows.alloc ?_ _) | (with_reducible refine Grows.drew ?_) | (with_reducible refine Grows.ext ?_ _ _)))) (hy.grows (by repeat' (first | (with_reducible exact Grows.refl _) | (with_reducible refine Grows.alloc ?_ _) | (with_reducible refine Grows.drew ?_) | (with_reducible refine Grows.ext ?_ _ _)))) (hN.grows (by repeat' (first | (with_reducible exact Grows.refl _) | (with_reducible refine Grows.alloc ?_ _) | (with_reducible refine Grows.drew ?_) | (with_reducible refine Grows.ext ?_ _ _)))) (hF.grows (by repeat' (first | (with_reducible exact Grows.refl _) | (with_reducible refine Grows.alloc ?_ _) | (with_reducible refine Grows.drew ?_) | (with_reducible refine Grows.ext ?_ _ _))))).mono ?_
  · exact ⟨by simp [go_sem], by simp [go_sem], by simp [go_sem], by simp [go_sem], by simp [go_sem], by simp [go_sem], by simp [go_sem]⟩
  rintro e w' ⟨rfl, h0, d0, rfl⟩
  go_wp2_with fail
  go_returns
  exact ⟨rfl, (by repeat' (first | (with_reducible exact Grows.refl _) | (with_reducible refine Grows.alloc ?_ _) | (with_reducible refine Grows.drew ?_) | (with_reducible refine Grows.ext ?_ _ _)))⟩

set_option maxHeartbeats 1000000 in
theorem told_move1 (Bw By Bn Bf : Nat) (r c t b x y n : Int) (o wr : Bool) (h : okF r c t b = true) (h2 : atB r c x y wr = true) (hn : 0 ≤ n ∧ n ≤ 200) (w : World) (hW : WaysAt w Bw Bf r c t b o) (hy : IntAt w By 1) (hN : IntAt w Bn n) (hF : FldAt w Bf r c t b o) :
    Calls Try.prog 52 #[.agg #[.int .i64 r, .int .i64 c, .int .i64 t, .int .i64 b, .bool o], .agg #[.int .i64 x, .int .i64 y, .bool wr], .func (.func 53) #[] #[.pointer (some ⟨Bw, 0, none⟩), .pointer (some ⟨By, 0, none⟩), .pointer (some ⟨Bn, 0, none⟩)]] w (Ret (.tuple #[.agg #[.int .i64 (downRow r b x n), .int .i64 y, .bool false], .int .i64 0]) w) := by
  go_enter Try.func52, Try.ntmps52
  go_wp2_with (first | (go_at_call 34; refine (checkAt_any _ _ _ _ _ _ _ _ _).mono ?_; rintro e w' ⟨rfl, h35, d35, rfl⟩))
  refine (move3_1 _ Bw By Bn Bf r c t b x y n o wr h h2 hn _ ?_ (hW.grows (by repeat' (first | (with_reducible exact Grows.refl _) | (with_reducible refine Grows.alloc ?_ _) | (with_reducible refine Grows.drew ?_) | (with_reducible refine Grows.ext ?_ _ _)))) (hy.grows (by repeat' (first | (with_reducible exact Grows.refl _) | (with_reducible refine Grows.alloc ?_ _) | (with_reducible refine Grows.drew ?_) | (with_reducible refine Grows.ext ?_ _ _)))) (hN.grows (by repeat' (first | (with_reducible exact Grows.refl _) | (with_reducible refine Grows.alloc ?_ _) | (with_reducible refine Grows.drew ?_) | (with_reducible refine Grows.ext ?_ _ _)))) (hF.grows (by repeat' (first | (with_reducible exact Grows.refl _) | (with_reducible refine Grows.alloc ?_ _) | (with_reducible refine Grows.drew ?_) | (with_reducible refine Grows.ext ?_ _ _))))).mono ?_
  · exact ⟨by simp [go_sem], by simp [go_sem], by simp [go_sem], by simp [go_sem], by simp [go_sem], by simp [go_sem], by simp [go_sem]⟩
  rintro e w' ⟨rfl, h0, d0, rfl⟩
  go_wp2_with fail
  go_returns
  exact ⟨rfl, (by repeat' (first | (with_reducible exact Grows.refl _) | (with_reducible refine Grows.alloc ?_ _) | (with_reducible refine Grows.drew ?_) | (with_reducible refine Grows.ext ?_ _ _)))⟩

set_option maxHeartbeats 1000000 in
theorem told_move2 (Bw By Bn Bf : Nat) (r c t b x y n : Int) (o wr : Bool) (h : okF r c t b = true) (h2 : atB r c x y wr = true) (hn : 0 ≤ n ∧ n ≤ 200) (w : World) (hW : WaysAt w Bw Bf r c t b o) (hy : IntAt w By 2) (hN : IntAt w Bn n) (hF : FldAt w Bf r c t b o) :
    Calls Try.prog 52 #[.agg #[.int .i64 r, .int .i64 c, .int .i64 t, .int .i64 b, .bool o], .agg #[.int .i64 x, .int .i64 y, .bool wr], .func (.func 53) #[] #[.pointer (some ⟨Bw, 0, none⟩), .pointer (some ⟨By, 0, none⟩), .pointer (some ⟨Bn, 0, none⟩)]] w (Ret (.tuple #[.agg #[.int .i64 x, .int .i64 (cl (y + n) 0 (c - 1)), .bool false], .int .i64 0]) w) := by
  go_enter Try.func52, Try.ntmps52
  go_wp2_with (first | (go_at_call 34; refine (checkAt_any _ _ _ _ _ _ _ _ _).mono ?_; rintro e w' ⟨rfl, h36, d36, rfl⟩))
  refine (move3_2 _ Bw By Bn Bf r c t b x y n o wr h h2 hn _ ?_ (hW.grows (by repeat' (first | (with_reducible exact Grows.refl _) | (with_reducible refine Grows.alloc ?_ _) | (with_reducible refine Grows.drew ?_) | (with_reducible refine Grows.ext ?_ _ _)))) (hy.grows (by repeat' (first | (with_reducible exact Grows.refl _) | (with_reducible refine Grows.alloc ?_ _) | (with_reducible refine Grows.drew ?_) | (with_reducible refine Grows.ext ?_ _ _)))) (hN.grows (by repeat' (first | (with_reducible exact Grows.refl _) | (with_reducible refine Grows.alloc ?_ _) | (with_reducible refine Grows.drew ?_) | (with_reducible refine Grows.ext ?_ _ _)))) (hF.grows (by repeat' (first | (with_reducible exact Grows.refl _) | (with_reducible refine Grows.alloc ?_ _) | (with_reducible refine Grows.drew ?_) | (with_reducible refine Grows.ext ?_ _ _))))).mono ?_
  · exact ⟨by simp [go_sem], by simp [go_sem], by simp [go_sem], by simp [go_sem], by simp [go_sem], by simp [go_sem], by simp [go_sem]⟩
  rintro e w' ⟨rfl, h0, d0, rfl⟩
  go_wp2_with fail
  go_returns
  exact ⟨rfl, (by repeat' (first | (with_reducible exact Grows.refl _) | (with_reducible refine Grows.alloc ?_ _) | (with_reducible refine Grows.drew ?_) | (with_reducible refine Grows.ext ?_ _ _)))⟩

set_option maxHeartbeats 1000000 in
theorem told_move3 (Bw By Bn Bf : Nat) (r c t b x y n : Int) (o wr : Bool) (h : okF r c t b = true) (h2 : atB r c x y wr = true) (hn : 0 ≤ n ∧ n ≤ 200) (w : World) (hW : WaysAt w Bw Bf r c t b o) (hy : IntAt w By 3) (hN : IntAt w Bn n) (hF : FldAt w Bf r c t b o) :
    Calls Try.prog 52 #[.agg #[.int .i64 r, .int .i64 c, .int .i64 t, .int .i64 b, .bool o], .agg #[.int .i64 x, .int .i64 y, .bool wr], .func (.func 53) #[] #[.pointer (some ⟨Bw, 0, none⟩), .pointer (some ⟨By, 0, none⟩), .pointer (some ⟨Bn, 0, none⟩)]] w (Ret (.tuple #[.agg #[.int .i64 x, .int .i64 (cl (y - n) 0 (c - 1)), .bool false], .int .i64 0]) w) := by
  go_enter Try.func52, Try.ntmps52
  go_wp2_with (first | (go_at_call 34; refine (checkAt_any _ _ _ _ _ _ _ _ _).mono ?_; rintro e w' ⟨rfl, h37, d37, rfl⟩))
  refine (move3_3 _ Bw By Bn Bf r c t b x y n o wr h h2 hn _ ?_ (hW.grows (by repeat' (first | (with_reducible exact Grows.refl _) | (with_reducible refine Grows.alloc ?_ _) | (with_reducible refine Grows.drew ?_) | (with_reducible refine Grows.ext ?_ _ _)))) (hy.grows (by repeat' (first | (with_reducible exact Grows.refl _) | (with_reducible refine Grows.alloc ?_ _) | (with_reducible refine Grows.drew ?_) | (with_reducible refine Grows.ext ?_ _ _)))) (hN.grows (by repeat' (first | (with_reducible exact Grows.refl _) | (with_reducible refine Grows.alloc ?_ _) | (with_reducible refine Grows.drew ?_) | (with_reducible refine Grows.ext ?_ _ _)))) (hF.grows (by repeat' (first | (with_reducible exact Grows.refl _) | (with_reducible refine Grows.alloc ?_ _) | (with_reducible refine Grows.drew ?_) | (with_reducible refine Grows.ext ?_ _ _))))).mono ?_
  · exact ⟨by simp [go_sem], by simp [go_sem], by simp [go_sem], by simp [go_sem], by simp [go_sem], by simp [go_sem], by simp [go_sem]⟩
  rintro e w' ⟨rfl, h0, d0, rfl⟩
  go_wp2_with fail
  go_returns
  exact ⟨rfl, (by repeat' (first | (with_reducible exact Grows.refl _) | (with_reducible refine Grows.alloc ?_ _) | (with_reducible refine Grows.drew ?_) | (with_reducible refine Grows.ext ?_ _ _)))⟩
end Go.Proofs.Ytepbknpdhiaepaa
