/-
  Walk: one step of CursorStays.
-/
import Derived.Test.YtepbknpdhiaepaaRows
import Derived.Test.YtepbknpdhiaepaaLt
import Derived.Test.YtepbknpdhiaepaaDefs
import Derived.Test.YtepbknpdhiaepaaCel
import Derived.Test.YtepbknpdhiaepaaW1
import Derived.Test.YtepbknpdhiaepaaW2
import Derived.Test.YtepbknpdhiaepaaW5
import Derived.Test.YtepbknpdhiaepaaW7
import Derived.Test.YtepbknpdhiaepaaW8
import Derived.Test.YtepbknpdhiaepaaW11
import Derived.Test.YtepbknpdhiaepaaW16
import Derived.Test.YtepbknpdhiaepaaW22
import Derived.WalkKit
import Derived.WalkSpells
import Derived.WalkLawsBesides
import Derived.Handy
import Derived.Lib.Hide
import Derived.Deep.Light
import Derived.Deep.LoopGhost
import Derived.BigGuardPart
import Derived.BigQuiet
import Derived.Deep.QuietTactic
import Derived.Deep.RegionHeld3
import Derived.Test.YtepbknpdhiaepaaReg
import Derived.Test.YtepbknpdhiaepaaReg3
import Derived.Test.YtepbknpdhiaepaaReg4
namespace Go.Proofs.Ytepbknpdhiaepaa
open Go.RowKit


def stRow (r c t b x what sw n : Int) (o : Bool) : Int :=
  if what % 8 = 0 ∨ what % 8 = 1 then gRow r t b n o else if what % 8 = 2 then x else if what % 8 = 3 then gRow r t b 1 o else if what % 8 = 4 then lnRow r x b 1 else if what % 8 = 5 then lnRow r x t (-1) else mvRow r c t b x (sw % 4) (max n 0)
def stCol (r c y what sw n m : Int) : Int :=
  if what % 8 = 0 ∨ what % 8 = 2 then gCol c m else if what % 8 = 1 then y else if what % 8 = 3 then gCol c 1 else if what % 8 = 4 ∨ what % 8 = 5 then y else mvCol r c y (sw % 4) (max n 0)

set_option maxHeartbeats 4000000 in
theorem done_0 (r c t b x y what sw n m : Int) (o wr : Bool) (hok : okF r c t b = true) (hat : atB r c x y wr = true) (u1 : 0 ≤ what ∧ what < 256) (u2 : 0 ≤ sw ∧ sw < 256) (hk : what % 8 = 0) (w : World) : Calls Try.prog 35 #[.agg #[.int .u8 what, .int .u8 sw, .int .i64 n, .int .i64 m], .agg #[.int .i64 r, .int .i64 c, .int .i64 t, .int .i64 b, .bool o], .agg #[.int .i64 x, .int .i64 y, .bool wr]] w (Ret (.tuple #[.agg #[.int .i64 (gRow r t b n o), .int .i64 (gCol c m), .bool false], .int .i64 0]) w) := by
  obtain ⟨u1, u1'⟩ := u1
  obtain ⟨u2, u2'⟩ := u2
  have hh := fun W => goto_ok r c t b n m o hok W
  have Hm := Lib.hid hh
  clear hh hok hat
  go_enter Try.func35, Try.ntmps35
  go_wp2_with (go_at_call 25; (with_reducible refine (Hm.out _).mono ?_); rintro e w' ⟨rfl, h1, d1, rfl⟩)
  go_returns
  exact ⟨rfl, (by repeat' (first | (with_reducible exact Grows.refl _) | (with_reducible refine Grows.alloc ?_ _) | (with_reducible refine Grows.drew ?_) | (with_reducible refine Grows.ext ?_ _ _)))⟩

set_option maxHeartbeats 4000000 in
theorem done_1 (r c t b x y what sw n m : Int) (o wr : Bool) (hok : okF r c t b = true) (hat : atB r c x y wr = true) (u1 : 0 ≤ what ∧ what < 256) (u2 : 0 ≤ sw ∧ sw < 256) (hk : what % 8 = 1) (w : World) : Calls Try.prog 35 #[.agg #[.int .u8 what, .int .u8 sw, .int .i64 n, .int .i64 m], .agg #[.int .i64 r, .int .i64 c, .int .i64 t, .int .i64 b, .bool o], .agg #[.int .i64 x, .int .i64 y, .bool wr]] w (Ret (.tuple #[.agg #[.int .i64 (gRow r t b n o), .int .i64 (y), .bool false], .int .i64 0]) w) := by
  obtain ⟨u1, u1'⟩ := u1
  obtain ⟨u2, u2'⟩ := u2
  have hh := fun W => rowTo_any r c t b n x y o wr W
  simp only [hok, hat, Bool.and_true, sel_true, cErr_true] at hh
  have Hm := Lib.hid hh
  clear hh hok hat
  go_enter Try.func35, Try.ntmps35
  go_wp2_with (go_at_call 31; (with_reducible refine (Hm.out _).mono ?_); rintro e w' ⟨rfl, h1, d1, rfl⟩)
  go_returns
  exact ⟨rfl, (by repeat' (first | (with_reducible exact Grows.refl _) | (with_reducible refine Grows.alloc ?_ _) | (with_reducible refine Grows.drew ?_) | (with_reducible refine Grows.ext ?_ _ _)))⟩

set_option maxHeartbeats 4000000 in
theorem done_2 (r c t b x y what sw n m : Int) (o wr : Bool) (hok : okF r c t b = true) (hat : atB r c x y wr = true) (u1 : 0 ≤ what ∧ what < 256) (u2 : 0 ≤ sw ∧ sw < 256) (hk : what % 8 = 2) (w : World) : Calls Try.prog 35 #[.agg #[.int .u8 what, .int .u8 sw, .int .i64 n, .int .i64 m], .agg #[.int .i64 r, .int .i64 c, .int .i64 t, .int .i64 b, .bool o], .agg #[.int .i64 x, .int .i64 y, .bool wr]] w (Ret (.tuple #[.agg #[.int .i64 (x), .int .i64 (gCol c m), .bool false], .int .i64 0]) w) := by
  obtain ⟨u1, u1'⟩ := u1
  obtain ⟨u2, u2'⟩ := u2
  have hh := fun W => colTo_any r c t b m x y o wr W
  simp only [hok, hat, Bool.and_true, sel_true, cErr_true] at hh
  have Hm := Lib.hid hh
  clear hh hok hat
  go_enter Try.func35, Try.ntmps35
  go_wp2_with (go_at_call 32; (with_reducible refine (Hm.out _).mono ?_); rintro e w' ⟨rfl, h1, d1, rfl⟩)
  go_returns
  exact ⟨rfl, (by repeat' (first | (with_reducible exact Grows.refl _) | (with_reducible refine Grows.alloc ?_ _) | (with_reducible refine Grows.drew ?_) | (with_reducible refine Grows.ext ?_ _ _)))⟩

set_option maxHeartbeats 4000000 in
theorem done_3 (r c t b x y what sw n m : Int) (o wr : Bool) (hok : okF r c t b = true) (hat : atB r c x y wr = true) (u1 : 0 ≤ what ∧ what < 256) (u2 : 0 ≤ sw ∧ sw < 256) (hk : what % 8 = 3) (w : World) : Calls Try.prog 35 #[.agg #[.int .u8 what, .int .u8 sw, .int .i64 n, .int .i64 m], .agg #[.int .i64 r, .int .i64 c, .int .i64 t, .int .i64 b, .bool o], .agg #[.int .i64 x, .int .i64 y, .bool wr]] w (Ret (.tuple #[.agg #[.int .i64 (gRow r t b 1 o), .int .i64 (gCol c 1), .bool false], .int .i64 0]) w) := by
  obtain ⟨u1, u1'⟩ := u1
  obtain ⟨u2, u2'⟩ := u2
  have hh := fun W => home_any r c t b o hok W
  have Hm := Lib.hid hh
  clear hh hok hat
  go_enter Try.func35, Try.ntmps35
  go_wp2_with (go_at_call 26; (with_reducible refine (Hm.out _).mono ?_); rintro e w' ⟨rfl, h1, d1, rfl⟩)
  go_returns
  exact ⟨rfl, (by repeat' (first | (with_reducible exact Grows.refl _) | (with_reducible refine Grows.alloc ?_ _) | (with_reducible refine Grows.drew ?_) | (with_reducible refine Grows.ext ?_ _ _)))⟩

set_option maxHeartbeats 4000000 in
theorem done_4 (r c t b x y what sw n m : Int) (o wr : Bool) (hok : okF r c t b = true) (hat : atB r c x y wr = true) (u1 : 0 ≤ what ∧ what < 256) (u2 : 0 ≤ sw ∧ sw < 256) (hk : what % 8 = 4) (w : World) : Calls Try.prog 35 #[.agg #[.int .u8 what, .int .u8 sw, .int .i64 n, .int .i64 m], .agg #[.int .i64 r, .int .i64 c, .int .i64 t, .int .i64 b, .bool o], .agg #[.int .i64 x, .int .i64 y, .bool wr]] w (Ret (.tuple #[.agg #[.int .i64 (lnRow r x b 1), .int .i64 (y), .bool false], .int .i64 0]) w) := by
  obtain ⟨u1, u1'⟩ := u1
  obtain ⟨u2, u2'⟩ := u2
  have hh := fun W => index_any r c t b x y o wr W
  simp only [hok, hat, Bool.and_true, sel_true, cErr_true] at hh
  have Hm := Lib.hid hh
  clear hh hok hat
  go_enter Try.func35, Try.ntmps35
  go_wp2_with (go_at_call 20; (with_reducible refine (Hm.out _).mono ?_); rintro e w' ⟨rfl, h1, d1, rfl⟩)
  go_returns
  exact ⟨rfl, (by repeat' (first | (with_reducible exact Grows.refl _) | (with_reducible refine Grows.alloc ?_ _) | (with_reducible refine Grows.drew ?_) | (with_reducible refine Grows.ext ?_ _ _)))⟩

set_option maxHeartbeats 4000000 in
theorem done_5 (r c t b x y what sw n m : Int) (o wr : Bool) (hok : okF r c t b = true) (hat : atB r c x y wr = true) (u1 : 0 ≤ what ∧ what < 256) (u2 : 0 ≤ sw ∧ sw < 256) (hk : what % 8 = 5) (w : World) : Calls Try.prog 35 #[.agg #[.int .u8 what, .int .u8 sw, .int .i64 n, .int .i64 m], .agg #[.int .i64 r, .int .i64 c, .int .i64 t, .int .i64 b, .bool o], .agg #[.int .i64 x, .int .i64 y, .bool wr]] w (Ret (.tuple #[.agg #[.int .i64 (lnRow r x t (-1)), .int .i64 (y), .bool false], .int .i64 0]) w) := by
  obtain ⟨u1, u1'⟩ := u1
  obtain ⟨u2, u2'⟩ := u2
  have hh := fun W => reverse_any r c t b x y o wr W
  simp only [hok, hat, Bool.and_true, sel_true, cErr_true] at hh
  have Hm := Lib.hid hh
  clear hh hok hat
  go_enter Try.func35, Try.ntmps35
  go_wp2_with (go_at_call 21; (with_reducible refine (Hm.out _).mono ?_); rintro e w' ⟨rfl, h1, d1, rfl⟩)
  go_returns
  exact ⟨rfl, (by repeat' (first | (with_reducible exact Grows.refl _) | (with_reducible refine Grows.alloc ?_ _) | (with_reducible refine Grows.drew ?_) | (with_reducible refine Grows.ext ?_ _ _)))⟩

set_option maxHeartbeats 4000000 in
theorem done_6a (r c t b x y what sw n m : Int) (o wr : Bool) (hok : okF r c t b = true) (hat : atB r c x y wr = true) (u1 : 0 ≤ what ∧ what < 256) (u2 : 0 ≤ sw ∧ sw < 256) (hk : what % 8 = 6) (hn : 0 ≤ n) (w : World) : Calls Try.prog 35 #[.agg #[.int .u8 what, .int .u8 sw, .int .i64 n, .int .i64 m], .agg #[.int .i64 r, .int .i64 c, .int .i64 t, .int .i64 b, .bool o], .agg #[.int .i64 x, .int .i64 y, .bool wr]] w (Ret (.tuple #[.agg #[.int .i64 (mvRow r c t b x (sw % 4) (max n 0)), .int .i64 (mvCol r c y (sw % 4) (max n 0)), .bool false], .int .i64 0]) w) := by
  obtain ⟨u1, u1'⟩ := u1
  obtain ⟨u2, u2'⟩ := u2
  have hh := fun W => move_any r c t b x y (sw % 4) n o wr W
  simp only [hok, hat, show mOk (sw % 4) n = true by rw [mOk_iff]; omega, Bool.and_true, sel_true, mErr_ok] at hh
  rw [show max n 0 = n by omega]
  have Hm := Lib.hid hh
  clear hh hok hat
  go_enter Try.func35, Try.ntmps35
  go_wp2_with (go_at_call 17; (with_reducible refine (Hm.out _).mono ?_); rintro e w' ⟨rfl, h1, d1, rfl⟩)
  go_returns
  exact ⟨rfl, (by repeat' (first | (with_reducible exact Grows.refl _) | (with_reducible refine Grows.alloc ?_ _) | (with_reducible refine Grows.drew ?_) | (with_reducible refine Grows.ext ?_ _ _)))⟩

set_option maxHeartbeats 4000000 in
theorem done_6b (r c t b x y what sw n m : Int) (o wr : Bool) (hok : okF r c t b = true) (hat : atB r c x y wr = true) (u1 : 0 ≤ what ∧ what < 256) (u2 : 0 ≤ sw ∧ sw < 256) (hk : what % 8 = 6) (hn : n < 0) (w : World) : Calls Try.prog 35 #[.agg #[.int .u8 what, .int .u8 sw, .int .i64 n, .int .i64 m], .agg #[.int .i64 r, .int .i64 c, .int .i64 t, .int .i64 b, .bool o], .agg #[.int .i64 x, .int .i64 y, .bool wr]] w (Ret (.tuple #[.agg #[.int .i64 (mvRow r c t b x (sw % 4) (max n 0)), .int .i64 (mvCol r c y (sw % 4) (max n 0)), .bool false], .int .i64 0]) w) := by
  obtain ⟨u1, u1'⟩ := u1
  obtain ⟨u2, u2'⟩ := u2
  have hh := fun W => move_any r c t b x y (sw % 4) 0 o wr W
  simp only [hok, hat, show mOk (sw % 4) 0 = true by rw [mOk_iff]; omega, Bool.and_true, sel_true, mErr_ok] at hh
  rw [show max n 0 = 0 by omega]
  have Hm := Lib.hid hh
  clear hh hok hat
  go_enter Try.func35, Try.ntmps35
  go_wp2_with (go_at_call 17; (with_reducible refine (Hm.out _).mono ?_); rintro e w' ⟨rfl, h1, d1, rfl⟩)
  go_returns
  exact ⟨rfl, (by repeat' (first | (with_reducible exact Grows.refl _) | (with_reducible refine Grows.alloc ?_ _) | (with_reducible refine Grows.drew ?_) | (with_reducible refine Grows.ext ?_ _ _)))⟩

set_option maxHeartbeats 4000000 in
theorem done_7a (r c t b x y what sw n m : Int) (o wr : Bool) (hok : okF r c t b = true) (hat : atB r c x y wr = true) (u1 : 0 ≤ what ∧ what < 256) (u2 : 0 ≤ sw ∧ sw < 256) (hk : what % 8 = 7) (hn : 0 ≤ n) (w : World) : Calls Try.prog 35 #[.agg #[.int .u8 what, .int .u8 sw, .int .i64 n, .int .i64 m], .agg #[.int .i64 r, .int .i64 c, .int .i64 t, .int .i64 b, .bool o], .agg #[.int .i64 x, .int .i64 y, .bool wr]] w (Ret (.tuple #[.agg #[.int .i64 (mvRow r c t b x (sw % 4) (max n 0)), .int .i64 (mvCol r c y (sw % 4) (max n 0)), .bool false], .int .i64 0]) w) := by
  obtain ⟨u1, u1'⟩ := u1
  obtain ⟨u2, u2'⟩ := u2
  have hh := fun W => move_any r c t b x y (sw % 4) n o wr W
  simp only [hok, hat, show mOk (sw % 4) n = true by rw [mOk_iff]; omega, Bool.and_true, sel_true, mErr_ok] at hh
  rw [show max n 0 = n by omega]
  have Hm := Lib.hid hh
  clear hh hok hat
  go_enter Try.func35, Try.ntmps35
  go_wp2_with (go_at_call 17; (with_reducible refine (Hm.out _).mono ?_); rintro e w' ⟨rfl, h1, d1, rfl⟩)
  go_returns
  exact ⟨rfl, (by repeat' (first | (with_reducible exact Grows.refl _) | (with_reducible refine Grows.alloc ?_ _) | (with_reducible refine Grows.drew ?_) | (with_reducible refine Grows.ext ?_ _ _)))⟩

set_option maxHeartbeats 4000000 in
theorem done_7b (r c t b x y what sw n m : Int) (o wr : Bool) (hok : okF r c t b = true) (hat : atB r c x y wr = true) (u1 : 0 ≤ what ∧ what < 256) (u2 : 0 ≤ sw ∧ sw < 256) (hk : what % 8 = 7) (hn : n < 0) (w : World) : Calls Try.prog 35 #[.agg #[.int .u8 what, .int .u8 sw, .int .i64 n, .int .i64 m], .agg #[.int .i64 r, .int .i64 c, .int .i64 t, .int .i64 b, .bool o], .agg #[.int .i64 x, .int .i64 y, .bool wr]] w (Ret (.tuple #[.agg #[.int .i64 (mvRow r c t b x (sw % 4) (max n 0)), .int .i64 (mvCol r c y (sw % 4) (max n 0)), .bool false], .int .i64 0]) w) := by
  obtain ⟨u1, u1'⟩ := u1
  obtain ⟨u2, u2'⟩ := u2
  have hh := fun W => move_any r c t b x y (sw % 4) 0 o wr W
  simp only [hok, hat, show mOk (sw % 4) 0 = true by rw [mOk_iff]; omega, Bool.and_true, sel_true, mErr_ok] at hh
  rw [show max n 0 = 0 by omega]
  have Hm := Lib.hid hh
  clear hh hok hat
  go_enter Try.func35, Try.ntmps35
  go_wp2_with (go_at_call 17; (with_reducible refine (Hm.out _).mono ?_); rintro e w' ⟨rfl, h1, d1, rfl⟩)
  go_returns
  exact ⟨rfl, (by repeat' (first | (with_reducible exact Grows.refl _) | (with_reducible refine Grows.alloc ?_ _) | (with_reducible refine Grows.drew ?_) | (with_reducible refine Grows.ext ?_ _ _)))⟩

theorem done_any (r c t b x y what sw n m : Int) (o wr : Bool) (hok : okF r c t b = true) (hat : atB r c x y wr = true) (u1 : 0 ≤ what ∧ what < 256) (u2 : 0 ≤ sw ∧ sw < 256) (w : World) : Calls Try.prog 35 #[.agg #[.int .u8 what, .int .u8 sw, .int .i64 n, .int .i64 m], .agg #[.int .i64 r, .int .i64 c, .int .i64 t, .int .i64 b, .bool o], .agg #[.int .i64 x, .int .i64 y, .bool wr]] w (Ret (.tuple #[.agg #[.int .i64 (stRow r c t b x what sw n o), .int .i64 (stCol r c y what sw n m), .bool false], .int .i64 0]) w) := by
  have hq : what % 8 = 0 ∨ what % 8 = 1 ∨ what % 8 = 2 ∨ what % 8 = 3 ∨ what % 8 = 4 ∨ what % 8 = 5 ∨ what % 8 = 6 ∨ what % 8 = 7 := by omega
  rcases hq with hk | hk | hk | hk | hk | hk | hk | hk
  all_goals simp only [stRow, stCol, hk, if_true, if_false, Int.reduceEq, or_true, true_or, or_self]
  · exact done_0 r c t b x y what sw n m o wr hok hat u1 u2 hk w
  · exact done_1 r c t b x y what sw n m o wr hok hat u1 u2 hk w
  · exact done_2 r c t b x y what sw n m o wr hok hat u1 u2 hk w
  · exact done_3 r c t b x y what sw n m o wr hok hat u1 u2 hk w
  · exact done_4 r c t b x y what sw n m o wr hok hat u1 u2 hk w
  · exact done_5 r c t b x y what sw n m o wr hok hat u1 u2 hk w
  · rcases (by omega : 0 ≤ n ∨ n < 0) with hn | hn
    · exact done_6a r c t b x y what sw n m o wr hok hat u1 u2 hk hn w
    · exact done_6b r c t b x y what sw n m o wr hok hat u1 u2 hk hn w
  · rcases (by omega : 0 ≤ n ∨ n < 0) with hn | hn
    · exact done_7a r c t b x y what sw n m o wr hok hat u1 u2 hk hn w
    · exact done_7b r c t b x y what sw n m o wr hok hat u1 u2 hk hn w

theorem gRow_in {r c t b n : Int} {o : Bool} (hok : okF r c t b = true) : 0 ≤ gRow r t b n o ∧ gRow r t b n o < r ∧ (o = true → t ≤ gRow r t b n o ∧ gRow r t b n o ≤ b) := by
  obtain ⟨f1, f2, f3, f4, f5⟩ := okF_iff.1 hok
  obtain ⟨t1, t2, t3⟩ := okF_t hok
  cases o
  · simp only [gRow, if_false, Bool.false_eq_true]
    have := cl_bd (cl n 1 r - 1 + 0) 0 (r - 1) (by omega)
    exact ⟨by omega, by omega, fun h => by cases h⟩
  · simp only [gRow, if_true]
    have := cl_bd (cl n 1 r - 1 + t) t b (by omega)
    exact ⟨by omega, by omega, fun _ => by omega⟩
theorem gCol_in {c m : Int} (hc : 1 ≤ c) : 0 ≤ gCol c m ∧ gCol c m < c := by
  have := cl_bd m 1 c hc
  unfold gCol
  omega
theorem up_in {t x n : Int} (ht : 0 ≤ t) (hx : 0 ≤ x) (hn : 0 ≤ n) : 0 ≤ upRow t x n ∧ upRow t x n ≤ x ∧ (t ≤ x → t ≤ upRow t x n) := by
  have h := up_fact t x n
  rcases (by omega : t ≤ x ∨ x < t) with hh | hh
  · rw [h.1 hh]; omega
  · rw [h.2 hh]; omega
theorem down_in {r b x n : Int} (hb : b < r) (hx : x < r) (hn : 0 ≤ n) : x ≤ downRow r b x n ∧ downRow r b x n < r ∧ (x ≤ b → downRow r b x n ≤ b) := by
  have h := down_fact r b x n
  rcases (by omega : x ≤ b ∨ b < x) with hh | hh
  · rw [h.1 hh]; omega
  · rw [h.2 hh]; omega
theorem ln_in {r x e k : Int} (hr : 1 ≤ r) (hx : 0 ≤ x ∧ x < r) (hk : k = 1 ∨ k = -1) : 0 ≤ lnRow r x e k ∧ lnRow r x e k < r ∧ (x = e → lnRow r x e k = e) ∧ (x ≠ e → lnRow r x e k - x = k ∨ lnRow r x e k = x) := by
  unfold lnRow cl
  simp only [beq_iff_eq]
  split <;> omega
theorem st_law {r c t b x y what sw n m : Int} {o wr : Bool} (hok : okF r c t b = true) (hat : atB r c x y wr = true) (u1 : 0 ≤ what ∧ what < 256) (u2 : 0 ≤ sw ∧ sw < 256) :
    atB r c (stRow r c t b x what sw n o) (stCol r c y what sw n m) false = true ∧ (t ≤ x ∧ x ≤ b → (what % 8 < 4 → o = true) → t ≤ stRow r c t b x what sw n o ∧ stRow r c t b x what sw n o ≤ b) := by
  obtain ⟨f1, f2, f3, f4, f5⟩ := okF_iff.1 hok
  obtain ⟨x2, x3, y2, y3, -⟩ := atB_iff.1 hat
  obtain ⟨t1, t2, t3⟩ := okF_t hok
  have g1 := gRow_in (n := n) (o := o) hok
  have g2 := gRow_in (n := 1) (o := o) hok
  have g3 := gCol_in (m := m) (show 1 ≤ c by omega)
  have g4 := gCol_in (m := 1) (show 1 ≤ c by omega)
  have l1 := ln_in (r := r) (x := x) (e := b) (k := 1) f1 ⟨x2, x3⟩ (by omega)
  have l2 := ln_in (r := r) (x := x) (e := t) (k := -1) f1 ⟨x2, x3⟩ (by omega)
  have hmx : 0 ≤ max n 0 := by omega
  have a1 := mv_add (k := sw % 4) (m := max n 0) (n := 0) hok hat (by omega) hmx (by omega)
  have m1 : t ≤ x ∧ x ≤ b → t ≤ mvRow r c t b x (sw % 4) (max n 0) ∧ mvRow r c t b x (sw % 4) (max n 0) ≤ b := by
    intro hw
    generalize max n 0 = p at *
    have hp : 0 ≤ min p (r + c) := by omega
    have d1 := up_in (n := min p (r + c)) t1 x2 hp
    have d2 := down_in (n := min p (r + c)) t3 x3 hp
    unfold mvRow
    split
    · omega
    · split <;> omega
  have a2 := atB_iff.1 a1.2.2
  clear a1 hmx f5
  have hq : what % 8 = 0 ∨ what % 8 = 1 ∨ what % 8 = 2 ∨ what % 8 = 3 ∨ what % 8 = 4 ∨ what % 8 = 5 ∨ what % 8 = 6 ∨ what % 8 = 7 := by omega
  rw [atB_iff]
  rcases hq with hk | hk | hk | hk | hk | hk | hk | hk
  all_goals simp only [stRow, stCol, hk, if_true, if_false, Int.reduceEq, or_true, true_or, or_self]
  all_goals refine ⟨⟨by omega, by omega, by omega, by omega, fun h => by cases h⟩, fun hw ho => ?_⟩
  · exact g1.2.2 (ho (by omega))
  · exact g1.2.2 (ho (by omega))
  · exact hw
  · exact g2.2.2 (ho (by omega))
  · omega
  · omega
  · exact m1 hw
  · exact m1 hw
end Go.Proofs.Ytepbknpdhiaepaa
