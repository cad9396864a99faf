/-
  Walks: the pen and the run of the reference.
-/
import Derived.Test.YtafokiobbceibaaRows
import Derived.Test.YtafokiobbceibaaLt
import Derived.Test.YtafokiobbceibaaDefs
import Derived.Test.YtafokiobbceibaaBits
import Derived.Test.YtafokiobbceibaaMaps
import Derived.Test.YtafokiobbceibaaW1
import Derived.Test.YtafokiobbceibaaW2
import Derived.Test.YtafokiobbceibaaW4
import Derived.Test.YtafokiobbceibaaW5
import Derived.Test.YtafokiobbceibaaW6
import Derived.Test.YtafokiobbceibaaW7
import Derived.Test.YtafokiobbceibaaRun
import Derived.Test.YtafokiobbceibaaW8
import Derived.Test.YtafokiobbceibaaW9
import Derived.Test.YtafokiobbceibaaW10
import Derived.Test.YtafokiobbceibaaW11
import Derived.Test.YtafokiobbceibaaW14
import Derived.Test.YtafokiobbceibaaW18
import Derived.Test.YtafokiobbceibaaD0
import Derived.Test.YtafokiobbceibaaD1
import Derived.Test.YtafokiobbceibaaD2
import Derived.Test.YtafokiobbceibaaD3
import Derived.Test.YtafokiobbceibaaD4
import Derived.Test.YtafokiobbceibaaD5
import Derived.Test.YtafokiobbceibaaD6
import Derived.Test.YtafokiobbceibaaD7
import Derived.Test.YtafokiobbceibaaSty
import Derived.Test.YtafokiobbceibaaW21
import Derived.Test.YtafokiobbceibaaPR
import Derived.Test.YtafokiobbceibaaW22
import Derived.WalkKit
import Derived.WalkSpells
import Derived.WalkLawsBesides
import Derived.Handy
import Derived.Laws.EntriesVeiled
import Derived.Lib.Hide
import Derived.Deep.Light
import Derived.Deep.LoopGhost
import Derived.BigGuardPart
import Derived.BigQuiet
import Derived.Deep.QuietTactic
import Derived.Deep.RegionHeld3
import Derived.Deep.DeepCutAuto
import Derived.Outline
import Derived.Test.YtafokiobbceibaaReg
import Derived.Test.YtafokiobbceibaaReg3
import Derived.Test.YtafokiobbceibaaReg4
namespace Go.Proofs.Ytafokiobbceibaa
open Go.RowKit


theorem rchkPen_any (kd n m ck cn : Int) (s : ByteArray) (w : World) : Calls Try.prog 15 #[.agg #[.int .i64 kd, .int .i64 n, .int .i64 m, .int .i64 ck, .int .i64 cn, .string s]] w (Ret (.int .i64 (pnErr kd n m ck cn s)) w) := by
  by_cases hn : 0 ≤ n ∧ n ≤ 6
  · have h : n = 0 ∨ n = 1 ∨ n = 2 ∨ n = 3 ∨ n = 4 ∨ n = 5 ∨ n = 6 := by omega
    rcases h with rfl | rfl | rfl | rfl | rfl | rfl | rfl
    · exact rcheckPen_0 kd m ck cn s w
    · exact rcheckPen_1 kd m ck cn s w
    · exact rcheckPen_2 kd m ck cn s w
    · exact rcheckPen_3 kd m ck cn s w
    · exact rcheckPen_4 kd m ck cn s w
    · exact rcheckPen_5 kd m ck cn s w
    · exact rcheckPen_6 kd m ck cn s w
  · exact rcheckPen_7 kd n m ck cn s hn w
theorem okS_of_err {a u fk fn bk bn lk ln : Int} (h : stErr a u fk fn bk bn lk ln = 0) : okS ⟨a, u, fk, fn, bk, bn, lk, ln⟩ := by
  unfold stErr at h
  cases h1 : auOk a u
  · rw [h1] at h
    simp at h
  · rw [h1] at h
    simp only [if_true] at h
    cases h2 : clOk fk fn
    · rw [h2] at h; simp at h
    · cases h3 : clOk bk bn
      · rw [h2, h3] at h; simp at h
      · cases h4 : clOk lk ln
        · rw [h2, h3, h4] at h; simp at h
        · have h5 : 0 ≤ a ∧ a ≤ 255 ∧ 0 ≤ u ∧ u ≤ 5 := of_decide_eq_true h1
          exact ⟨⟨h5.1, h5.2.1⟩, h5.2.2, h2, h3, h4⟩
def subOk (m : Int) (n : Nat) : Bool := wrap64 (n - bits .and .i64 n m) == bits .andNot .i64 n m
theorem sub_all {m : Int} (h : clrB m = true) : ∀ n, n < 256 → subOk m n = true := by
  rcases clrB_or h with rfl | rfl | rfl | rfl | rfl | rfl | rfl <;> decide +kernel
theorem sub_ok {a m : Int} (ha : 0 ≤ a ∧ a ≤ 255) (h : clrB m = true) : wrap64 (a - bits .and .i64 a m) = bits .andNot .i64 a m := by
  obtain ⟨n, rfl⟩ : ∃ n : Nat, a = n := ⟨a.toNat, by omega⟩
  have := sub_all h n (by omega)
  simpa [subOk] using this
set_option maxHeartbeats 2000000 in
theorem rpen_0 (a u fk fn bk bn lk ln kd m ck cn : Int) (s : ByteArray) (hc : ∀ W, Calls Try.prog 15 #[.agg #[.int .i64 kd, .int .i64 0, .int .i64 m, .int .i64 ck, .int .i64 cn, .string s]] W (Ret (.int .i64 0) W)) (w : World) : Calls Try.prog 33 #[.agg #[.int .i64 a, .int .i64 u, .int .i64 fk, .int .i64 fn, .int .i64 bk, .int .i64 bn, .int .i64 lk, .int .i64 ln], .agg #[.int .i64 kd, .int .i64 0, .int .i64 m, .int .i64 ck, .int .i64 cn, .string s]] w (Ret (.agg #[.int .i64 0, .int .i64 0, .int .i64 0, .int .i64 0, .int .i64 0, .int .i64 0, .int .i64 0, .int .i64 0]) w) := by
  have Hc := Lib.hid hc
  clear hc
  go_enter Try.func33, Try.ntmps33
  go_wp2_with (go_at_call 15; (with_reducible refine (Hc.out _).mono ?_); rintro e w' ⟨rfl, h1, d1, rfl⟩)
  go_returns
  exact ⟨rfl, (by repeat' (first | (with_reducible exact Grows.refl _) | (with_reducible refine Grows.alloc ?_ _) | (with_reducible refine Grows.drew ?_) | (with_reducible refine Grows.ext ?_ _ _)))⟩
set_option maxHeartbeats 2000000 in
theorem rpen_1 (a u fk fn bk bn lk ln kd m ck cn : Int) (s : ByteArray) (hc : ∀ W, Calls Try.prog 15 #[.agg #[.int .i64 kd, .int .i64 1, .int .i64 m, .int .i64 ck, .int .i64 cn, .string s]] W (Ret (.int .i64 0) W)) (w : World) : Calls Try.prog 33 #[.agg #[.int .i64 a, .int .i64 u, .int .i64 fk, .int .i64 fn, .int .i64 bk, .int .i64 bn, .int .i64 lk, .int .i64 ln], .agg #[.int .i64 kd, .int .i64 1, .int .i64 m, .int .i64 ck, .int .i64 cn, .string s]] w (Ret (.agg #[.int .i64 (bits .or .i64 a m), .int .i64 u, .int .i64 fk, .int .i64 fn, .int .i64 bk, .int .i64 bn, .int .i64 lk, .int .i64 ln]) w) := by
  have Hc := Lib.hid hc
  clear hc
  go_enter Try.func33, Try.ntmps33
  go_wp2_with (go_at_call 15; (with_reducible refine (Hc.out _).mono ?_); rintro e w' ⟨rfl, h1, d1, rfl⟩)
  go_returns
  exact ⟨rfl, (by repeat' (first | (with_reducible exact Grows.refl _) | (with_reducible refine Grows.alloc ?_ _) | (with_reducible refine Grows.drew ?_) | (with_reducible refine Grows.ext ?_ _ _)))⟩
set_option maxHeartbeats 2000000 in
theorem rpen_2 (a u fk fn bk bn lk ln kd m ck cn : Int) (s : ByteArray) (hc : ∀ W, Calls Try.prog 15 #[.agg #[.int .i64 kd, .int .i64 2, .int .i64 m, .int .i64 ck, .int .i64 cn, .string s]] W (Ret (.int .i64 0) W)) (hsub : wrap64 (a - bits .and .i64 a m) = bits .andNot .i64 a m) (w : World) : Calls Try.prog 33 #[.agg #[.int .i64 a, .int .i64 u, .int .i64 fk, .int .i64 fn, .int .i64 bk, .int .i64 bn, .int .i64 lk, .int .i64 ln], .agg #[.int .i64 kd, .int .i64 2, .int .i64 m, .int .i64 ck, .int .i64 cn, .string s]] w (Ret (.agg #[.int .i64 (bits .andNot .i64 a m), .int .i64 u, .int .i64 fk, .int .i64 fn, .int .i64 bk, .int .i64 bn, .int .i64 lk, .int .i64 ln]) w) := by
  have Hc := Lib.hid hc
  clear hc
  go_enter Try.func33, Try.ntmps33
  go_wp2_with (go_at_call 15; (with_reducible refine (Hc.out _).mono ?_); rintro e w' ⟨rfl, h1, d1, rfl⟩)
  go_returns
  exact ⟨rfl, (by repeat' (first | (with_reducible exact Grows.refl _) | (with_reducible refine Grows.alloc ?_ _) | (with_reducible refine Grows.drew ?_) | (with_reducible refine Grows.ext ?_ _ _)))⟩
set_option maxHeartbeats 2000000 in
theorem rpen_3 (a u fk fn bk bn lk ln kd m ck cn : Int) (s : ByteArray) (hc : ∀ W, Calls Try.prog 15 #[.agg #[.int .i64 kd, .int .i64 3, .int .i64 m, .int .i64 ck, .int .i64 cn, .string s]] W (Ret (.int .i64 0) W)) (w : World) : Calls Try.prog 33 #[.agg #[.int .i64 a, .int .i64 u, .int .i64 fk, .int .i64 fn, .int .i64 bk, .int .i64 bn, .int .i64 lk, .int .i64 ln], .agg #[.int .i64 kd, .int .i64 3, .int .i64 m, .int .i64 ck, .int .i64 cn, .string s]] w (Ret (.agg #[.int .i64 a, .int .i64 m, .int .i64 fk, .int .i64 fn, .int .i64 bk, .int .i64 bn, .int .i64 lk, .int .i64 ln]) w) := by
  have Hc := Lib.hid hc
  clear hc
  go_enter Try.func33, Try.ntmps33
  go_wp2_with (go_at_call 15; (with_reducible refine (Hc.out _).mono ?_); rintro e w' ⟨rfl, h1, d1, rfl⟩)
  go_returns
  exact ⟨rfl, (by repeat' (first | (with_reducible exact Grows.refl _) | (with_reducible refine Grows.alloc ?_ _) | (with_reducible refine Grows.drew ?_) | (with_reducible refine Grows.ext ?_ _ _)))⟩
set_option maxHeartbeats 2000000 in
theorem rpen_4 (a u fk fn bk bn lk ln kd m ck cn : Int) (s : ByteArray) (hc : ∀ W, Calls Try.prog 15 #[.agg #[.int .i64 kd, .int .i64 4, .int .i64 m, .int .i64 ck, .int .i64 cn, .string s]] W (Ret (.int .i64 0) W)) (w : World) : Calls Try.prog 33 #[.agg #[.int .i64 a, .int .i64 u, .int .i64 fk, .int .i64 fn, .int .i64 bk, .int .i64 bn, .int .i64 lk, .int .i64 ln], .agg #[.int .i64 kd, .int .i64 4, .int .i64 m, .int .i64 ck, .int .i64 cn, .string s]] w (Ret (.agg #[.int .i64 a, .int .i64 u, .int .i64 ck, .int .i64 cn, .int .i64 bk, .int .i64 bn, .int .i64 lk, .int .i64 ln]) w) := by
  have Hc := Lib.hid hc
  clear hc
  go_enter Try.func33, Try.ntmps33
  go_wp2_with (go_at_call 15; (with_reducible refine (Hc.out _).mono ?_); rintro e w' ⟨rfl, h1, d1, rfl⟩)
  go_returns
  exact ⟨rfl, (by repeat' (first | (with_reducible exact Grows.refl _) | (with_reducible refine Grows.alloc ?_ _) | (with_reducible refine Grows.drew ?_) | (with_reducible refine Grows.ext ?_ _ _)))⟩
set_option maxHeartbeats 2000000 in
theorem rpen_5 (a u fk fn bk bn lk ln kd m ck cn : Int) (s : ByteArray) (hc : ∀ W, Calls Try.prog 15 #[.agg #[.int .i64 kd, .int .i64 5, .int .i64 m, .int .i64 ck, .int .i64 cn, .string s]] W (Ret (.int .i64 0) W)) (w : World) : Calls Try.prog 33 #[.agg #[.int .i64 a, .int .i64 u, .int .i64 fk, .int .i64 fn, .int .i64 bk, .int .i64 bn, .int .i64 lk, .int .i64 ln], .agg #[.int .i64 kd, .int .i64 5, .int .i64 m, .int .i64 ck, .int .i64 cn, .string s]] w (Ret (.agg #[.int .i64 a, .int .i64 u, .int .i64 fk, .int .i64 fn, .int .i64 ck, .int .i64 cn, .int .i64 lk, .int .i64 ln]) w) := by
  have Hc := Lib.hid hc
  clear hc
  go_enter Try.func33, Try.ntmps33
  go_wp2_with (go_at_call 15; (with_reducible refine (Hc.out _).mono ?_); rintro e w' ⟨rfl, h1, d1, rfl⟩)
  go_returns
  exact ⟨rfl, (by repeat' (first | (with_reducible exact Grows.refl _) | (with_reducible refine Grows.alloc ?_ _) | (with_reducible refine Grows.drew ?_) | (with_reducible refine Grows.ext ?_ _ _)))⟩
set_option maxHeartbeats 2000000 in
theorem rpen_6 (a u fk fn bk bn lk ln kd m ck cn : Int) (s : ByteArray) (hc : ∀ W, Calls Try.prog 15 #[.agg #[.int .i64 kd, .int .i64 6, .int .i64 m, .int .i64 ck, .int .i64 cn, .string s]] W (Ret (.int .i64 0) W)) (w : World) : Calls Try.prog 33 #[.agg #[.int .i64 a, .int .i64 u, .int .i64 fk, .int .i64 fn, .int .i64 bk, .int .i64 bn, .int .i64 lk, .int .i64 ln], .agg #[.int .i64 kd, .int .i64 6, .int .i64 m, .int .i64 ck, .int .i64 cn, .string s]] w (Ret (.agg #[.int .i64 a, .int .i64 u, .int .i64 fk, .int .i64 fn, .int .i64 bk, .int .i64 bn, .int .i64 ck, .int .i64 cn]) w) := by
  have Hc := Lib.hid hc
  clear hc
  go_enter Try.func33, Try.ntmps33
  go_wp2_with (go_at_call 15; (with_reducible refine (Hc.out _).mono ?_); rintro e w' ⟨rfl, h1, d1, rfl⟩)
  go_returns
  exact ⟨rfl, (by repeat' (first | (with_reducible exact Grows.refl _) | (with_reducible refine Grows.alloc ?_ _) | (with_reducible refine Grows.drew ?_) | (with_reducible refine Grows.ext ?_ _ _)))⟩
theorem rpen_any (x : Sty) (hx : okS x) (p : Pen) (hp : okP p = true) (w : World) : Calls Try.prog 33 #[styV x, .agg #[.int .i64 p.kd, .int .i64 p.n, .int .i64 p.m, .int .i64 p.ck, .int .i64 p.cn, .string p.s]] w (Ret (styV (apS x p)) w) := by
  have hc := fun W => rchkPen_any p.kd p.n p.m p.ck p.cn p.s W
  rw [show pnErr p.kd p.n p.m p.ck p.cn p.s = 0 from if_pos hp] at hc
  obtain ⟨kd, n, m, ck, cn, s⟩ := p
  obtain ⟨a, u, fk, fn, bk, bn, lk, ln⟩ := x
  rcases okP_or hp with e | ⟨e, h⟩ | ⟨e, h⟩ | ⟨e, h⟩ | ⟨e, h⟩ | ⟨e, h⟩ | ⟨e, h⟩
  all_goals
    simp only at e hc
    subst e
  · exact rpen_0 a u fk fn bk bn lk ln kd m ck cn s hc w
  · exact rpen_1 a u fk fn bk bn lk ln kd m ck cn s hc w
  · exact rpen_2 a u fk fn bk bn lk ln kd m ck cn s hc (sub_ok hx.1 h) w
  · exact rpen_3 a u fk fn bk bn lk ln kd m ck cn s hc w
  · exact rpen_4 a u fk fn bk bn lk ln kd m ck cn s hc w
  · exact rpen_5 a u fk fn bk bn lk ln kd m ck cn s hc w
  · exact rpen_6 a u fk fn bk bn lk ln kd m ck cn s hc w
end Go.Proofs.Ytafokiobbceibaa
