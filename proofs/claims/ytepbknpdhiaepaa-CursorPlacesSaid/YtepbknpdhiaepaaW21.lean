/-
  Walk: the law CursorPlaces.
-/
import Derived.Test.YtepbknpdhiaepaaRows
import Derived.Test.YtepbknpdhiaepaaLt
import Derived.Test.YtepbknpdhiaepaaDefs
import Derived.Test.YtepbknpdhiaepaaCel
import Derived.Test.YtepbknpdhiaepaaW1
import Derived.Test.YtepbknpdhiaepaaW2
import Derived.Test.YtepbknpdhiaepaaW5
import Derived.Test.YtepbknpdhiaepaaW13
import Derived.Test.YtepbknpdhiaepaaW14
import Derived.Test.YtepbknpdhiaepaaW15
import Derived.Test.YtepbknpdhiaepaaW16
import Derived.Test.YtepbknpdhiaepaaW18
import Derived.Test.YtepbknpdhiaepaaIX
import Derived.WalkKit
import Derived.WalkSpells
import Derived.WalkLawsBesides
import Derived.Handy
import Derived.Lib.Hide
import Derived.Deep.Light
import Derived.Deep.LoopGhost
import Derived.BigGuardPart
import Derived.BigQuiet
import Derived.Deep.QuietTactic
import Derived.Deep.RegionHeld3
import Derived.Test.YtepbknpdhiaepaaReg
import Derived.Test.YtepbknpdhiaepaaReg3
import Derived.Test.YtepbknpdhiaepaaReg4
namespace Go.Proofs.Ytepbknpdhiaepaa
open Go.RowKit


set_option maxRecDepth 100000 in
set_option maxHeartbeats 20000000 in
theorem lawPlaces_true (rows cols top long row col : Int) (od wd : Bool) (h1 : 0 ≤ rows ∧ rows < 256) (h2 : 0 ≤ cols ∧ cols < 256) (h3 : 0 ≤ top ∧ top < 256) (h4 : 0 ≤ long ∧ long < 256) (h5 : 0 ≤ row ∧ row < 256) (h6 : 0 ≤ col ∧ col < 256) (w : World) : Calls Try.prog 6 #[.agg #[.int .u8 rows, .int .u8 cols, .int .u8 top, .int .u8 long, .int .u8 row, .int .u8 col, .bool od, .bool wd]] w (Ret (.bool true) w) := by
  have hok := dOk (top := top) (long := long) h1.1 h2.1 h3.1 h4.1
  have hat := dAt (cols := cols) (top := top) (row := row) (col := col) (wr := wd) h1.1 h2.1 h3.1 h4.1
  have hf := fun W => dfield_any rows cols top long row col od wd h1 h2 h3 h4 h5 h6 W
  have hcu := fun W => dcursor_any rows cols top long row col od wd h1 h2 h3 h4 h5 h6 W
  generalize dR rows = r1 at *
  generalize dC cols = c1 at *
  generalize dT rows top long = t1 at *
  generalize dB rows top long = b1 at *
  generalize dRow rows top long row = x1 at *
  generalize dCol cols col = y1 at *
  generalize dWr cols col wd = g1 at *
  have Hf := Lib.hid hf
  have Hc := Lib.hid hcu
  clear hf hcu h1 h2 h3 h4 h5 h6
  obtain ⟨f1, f2, f3, f4, f5⟩ := okF_iff.1 hok
  obtain ⟨x2, x3, y2, y3, -⟩ := atB_iff.1 hat
  have ey : gCol c1 (y1 + 1) = y1 := by unfold gCol cl; omega
  go_enter Try.func6, Try.ntmps6
  go_wp2_with (go_at_call 22; refine (works_true _).mono ?_; rintro e w' ⟨rfl, h9, d9, rfl⟩)
  try simp only [ext_ext]
  refine wp_region_makes2 5 3 7 6 4 8 (.cells #[.int .i64 0, .int .i64 0, .int .i64 0, .int .i64 0, .bool false] 23) (.cells #[.int .i64 r1, .int .i64 c1, .int .i64 t1, .int .i64 b1, .bool od] 23) (.cells #[.int .i64 0, .int .i64 0, .bool false] 27) (.cells #[.int .i64 x1, .int .i64 y1, .bool g1] 27) (by kernel_rfl) (by kernel_rfl) rfl rfl (fun _ _ => by simp [go_sem]) (fun _ _ => by simp [go_sem]) ?_
  repeat (first | (refine spWalk_op (by rfl) (fun K hK => ?_); go_simp; (try go_ints); first | (refine hK _ ?_; clear hK K) | (apply Exists.intro; refine ⟨fun xg => ?_, hK _ ?_⟩; (first | (go_at_call 12; exact Hf.out _) | (go_at_call 11; exact own_any _ _ _ _ _ _) | (go_at_call 14; exact Hc.out _)); clear hK K)) | (refine spWalk_sp (by rfl) (asks2 ?_ ?_) ?_; (intro h; (first | (simp [mk, Mk.s] at h; done) | (exact fillsM_store rfl 23 (.tmp 3) (.tmp 18) rfl #[.int .i64 0, .int .i64 0, .int .i64 0, .int .i64 0, .bool false] #[.int .i64 r1, .int .i64 c1, .int .i64 t1, .int .i64 b1, .bool od] 23 rfl rfl (fun _ => rfl) (fun _ => rfl) (by kernel_rfl) rfl (by simp [Value.oneCell'])))); (intro h; (first | (simp [mk, Mk.s] at h; done) | (exact fillsM_store rfl 27 (.tmp 4) (.tmp 20) rfl #[.int .i64 0, .int .i64 0, .bool false] #[.int .i64 x1, .int .i64 y1, .bool g1] 27 rfl rfl (fun _ => rfl) (fun _ => rfl) (by kernel_rfl) rfl (by simp [Value.oneCell']))))))
  refine spWalk_nil ?_
  intro n80a n80b W80 hG80 hA80 hB80 hN80 hO80 hP80
  simp only [Act.put, List.getElem_toArray, List.getElem_cons_succ, List.getElem_cons_zero, List.setIfInBounds_toArray, List.set_cons_zero, List.set_cons_succ]
  obtain ⟨k0, k1, k2, k3, k4, k5⟩ := fld_of hO80
  obtain ⟨q0, q1, q2, q3, q4, q5, q6⟩ := cur_of hP80
  have hne := hN80 (by decide)
  have hn1 : w.heap.size ≤ n80a := by simp only [ext_size, World.size_alloc] at hA80; omega
  have hn2 : w.heap.size ≤ n80b := by simp only [ext_size, World.size_alloc] at hB80; omega
  have hG : Grows w W80 := Grows.trans (by repeat' (first | (with_reducible exact Grows.refl _) | (with_reducible refine Grows.alloc ?_ _) | (with_reducible refine Grows.drew ?_) | (with_reducible refine Grows.ext ?_ _ _))) hG80
  clear hG80 hA80 hB80 hN80 hO80 hP80
  generalize n80a = B1 at *
  generalize n80b = B2 at *
  generalize W80 = W at *
  cases od
  · have Hg1 : Hid (∀ W, Calls Try.prog 25 #[.agg #[.int .i64 r1, .int .i64 c1, .int .i64 t1, .int .i64 b1, .bool false], .int .i64 (x1 + 1), .int .i64 (y1 + 1)] W (Ret (.tuple #[.agg #[.int .i64 (x1), .int .i64 y1, .bool false], .int .i64 0]) W)) := by
      refine Lib.hid fun W => ?_
      have := goto_ok r1 c1 t1 b1 (x1 + 1) (y1 + 1) false hok W
      rw [ey, show gRow r1 t1 b1 (x1 + 1) false = x1 by simp only [gRow, cl, if_true, if_false, Bool.false_eq_true]; omega] at this
      exact this
    have Hg2 := Lib.hid fun W => goto_ok r1 c1 t1 b1 1 1 false hok W
    have Hh := Lib.hid fun W => home_any r1 c1 t1 b1 false hok W
    have Hg3 : Hid (∀ W, Calls Try.prog 25 #[.agg #[.int .i64 r1, .int .i64 c1, .int .i64 t1, .int .i64 b1, .bool false], .int .i64 (-5), .int .i64 0] W (Ret (.tuple #[.agg #[.int .i64 (gRow r1 t1 b1 1 false), .int .i64 (gCol c1 1), .bool false], .int .i64 0]) W)) := by
      refine Lib.hid fun W => ?_
      have := goto_ok r1 c1 t1 b1 (-5) 0 false hok W
      rw [show gCol c1 0 = gCol c1 1 by simp only [gCol, cl]; omega, show gRow r1 t1 b1 (-5) false = gRow r1 t1 b1 1 false by simp only [gRow, cl, if_true, if_false, Bool.false_eq_true]; omega] at this
      exact this
    generalize gRow r1 t1 b1 1 false = hx at *
    generalize gCol c1 1 = hy at *
    clear hok hat ey
    go_wp2_with (first | (go_at_call 25; (with_reducible refine (Hg1.out _).mono ?_); rintro e w' ⟨rfl, h1, d1, rfl⟩) | (go_at_call 25; (with_reducible refine (Hg3.out _).mono ?_); rintro e w' ⟨rfl, h2, d2, rfl⟩) | (go_at_call 25; (with_reducible refine (Hg2.out _).mono ?_); rintro e w' ⟨rfl, h3, d3, rfl⟩) | (go_at_call 26; (with_reducible refine (Hh.out _).mono ?_); rintro e w' ⟨rfl, h4, d4, rfl⟩) | (go_at_call 27; refine (is_yes _ _ _ _ _ _ (by simp) _).mono ?_; rintro e w' ⟨rfl, h5, d5, rfl⟩))
    go_returns
    exact ⟨rfl, (by repeat' (first | (with_reducible exact hG) | (with_reducible refine Grows.setCell ?_ hn2 _) | (with_reducible exact Grows.refl _) | (with_reducible refine Grows.alloc ?_ _) | (with_reducible refine Grows.drew ?_) | (with_reducible refine Grows.ext ?_ _ _)))⟩
  · rcases (by omega : x1 < t1 ∨ (t1 ≤ x1 ∧ x1 ≤ b1) ∨ b1 < x1) with hz | ⟨hz, hz2⟩ | hz
    · have Hg1 : Hid (∀ W, Calls Try.prog 25 #[.agg #[.int .i64 r1, .int .i64 c1, .int .i64 t1, .int .i64 b1, .bool true], .int .i64 (1), .int .i64 (y1 + 1)] W (Ret (.tuple #[.agg #[.int .i64 (t1), .int .i64 y1, .bool false], .int .i64 0]) W)) := by
        refine Lib.hid fun W => ?_
        have := goto_ok r1 c1 t1 b1 (1) (y1 + 1) true hok W
        rw [ey, show gRow r1 t1 b1 (1) true = t1 by simp only [gRow, cl, if_true, if_false, Bool.false_eq_true]; omega] at this
        exact this
      have Hg2 := Lib.hid fun W => goto_ok r1 c1 t1 b1 1 1 true hok W
      have Hh := Lib.hid fun W => home_any r1 c1 t1 b1 true hok W
      have Hg3 : Hid (∀ W, Calls Try.prog 25 #[.agg #[.int .i64 r1, .int .i64 c1, .int .i64 t1, .int .i64 b1, .bool true], .int .i64 (-5), .int .i64 0] W (Ret (.tuple #[.agg #[.int .i64 (gRow r1 t1 b1 1 true), .int .i64 (gCol c1 1), .bool false], .int .i64 0]) W)) := by
        refine Lib.hid fun W => ?_
        have := goto_ok r1 c1 t1 b1 (-5) 0 true hok W
        rw [show gCol c1 0 = gCol c1 1 by simp only [gCol, cl]; omega, show gRow r1 t1 b1 (-5) true = gRow r1 t1 b1 1 true by simp only [gRow, cl, if_true, if_false, Bool.false_eq_true]; omega] at this
        exact this
      generalize gRow r1 t1 b1 1 true = hx at *
      generalize gCol c1 1 = hy at *
      clear hok hat ey
      go_wp2_with (first | (go_at_call 25; (with_reducible refine (Hg1.out _).mono ?_); rintro e w' ⟨rfl, h1, d1, rfl⟩) | (go_at_call 25; (with_reducible refine (Hg3.out _).mono ?_); rintro e w' ⟨rfl, h2, d2, rfl⟩) | (go_at_call 25; (with_reducible refine (Hg2.out _).mono ?_); rintro e w' ⟨rfl, h3, d3, rfl⟩) | (go_at_call 26; (with_reducible refine (Hh.out _).mono ?_); rintro e w' ⟨rfl, h4, d4, rfl⟩) | (go_at_call 27; refine (is_yes _ _ _ _ _ _ (by simp) _).mono ?_; rintro e w' ⟨rfl, h5, d5, rfl⟩))
      go_returns
      exact ⟨rfl, (by repeat' (first | (with_reducible exact hG) | (with_reducible refine Grows.setCell ?_ hn2 _) | (with_reducible exact Grows.refl _) | (with_reducible refine Grows.alloc ?_ _) | (with_reducible refine Grows.drew ?_) | (with_reducible refine Grows.ext ?_ _ _)))⟩
    · have Hg1 : Hid (∀ W, Calls Try.prog 25 #[.agg #[.int .i64 r1, .int .i64 c1, .int .i64 t1, .int .i64 b1, .bool true], .int .i64 (x1 - t1 + 1), .int .i64 (y1 + 1)] W (Ret (.tuple #[.agg #[.int .i64 (x1), .int .i64 y1, .bool false], .int .i64 0]) W)) := by
        refine Lib.hid fun W => ?_
        have := goto_ok r1 c1 t1 b1 (x1 - t1 + 1) (y1 + 1) true hok W
        rw [ey, show gRow r1 t1 b1 (x1 - t1 + 1) true = x1 by simp only [gRow, cl, if_true, if_false, Bool.false_eq_true]; omega] at this
        exact this
      have Hg2 := Lib.hid fun W => goto_ok r1 c1 t1 b1 1 1 true hok W
      have Hh := Lib.hid fun W => home_any r1 c1 t1 b1 true hok W
      have Hg3 : Hid (∀ W, Calls Try.prog 25 #[.agg #[.int .i64 r1, .int .i64 c1, .int .i64 t1, .int .i64 b1, .bool true], .int .i64 (-5), .int .i64 0] W (Ret (.tuple #[.agg #[.int .i64 (gRow r1 t1 b1 1 true), .int .i64 (gCol c1 1), .bool false], .int .i64 0]) W)) := by
        refine Lib.hid fun W => ?_
        have := goto_ok r1 c1 t1 b1 (-5) 0 true hok W
        rw [show gCol c1 0 = gCol c1 1 by simp only [gCol, cl]; omega, show gRow r1 t1 b1 (-5) true = gRow r1 t1 b1 1 true by simp only [gRow, cl, if_true, if_false, Bool.false_eq_true]; omega] at this
        exact this
      generalize gRow r1 t1 b1 1 true = hx at *
      generalize gCol c1 1 = hy at *
      clear hok hat ey
      go_wp2_with (first | (go_at_call 25; (with_reducible refine (Hg1.out _).mono ?_); rintro e w' ⟨rfl, h1, d1, rfl⟩) | (go_at_call 25; (with_reducible refine (Hg3.out _).mono ?_); rintro e w' ⟨rfl, h2, d2, rfl⟩) | (go_at_call 25; (with_reducible refine (Hg2.out _).mono ?_); rintro e w' ⟨rfl, h3, d3, rfl⟩) | (go_at_call 26; (with_reducible refine (Hh.out _).mono ?_); rintro e w' ⟨rfl, h4, d4, rfl⟩) | (go_at_call 27; refine (is_yes _ _ _ _ _ _ (by simp) _).mono ?_; rintro e w' ⟨rfl, h5, d5, rfl⟩))
      go_returns
      exact ⟨rfl, (by repeat' (first | (with_reducible exact hG) | (with_reducible refine Grows.setCell ?_ hn2 _) | (with_reducible exact Grows.refl _) | (with_reducible refine Grows.alloc ?_ _) | (with_reducible refine Grows.drew ?_) | (with_reducible refine Grows.ext ?_ _ _)))⟩
    · have Hg1 : Hid (∀ W, Calls Try.prog 25 #[.agg #[.int .i64 r1, .int .i64 c1, .int .i64 t1, .int .i64 b1, .bool true], .int .i64 (b1 - t1 + 1), .int .i64 (y1 + 1)] W (Ret (.tuple #[.agg #[.int .i64 (b1), .int .i64 y1, .bool false], .int .i64 0]) W)) := by
        refine Lib.hid fun W => ?_
        have := goto_ok r1 c1 t1 b1 (b1 - t1 + 1) (y1 + 1) true hok W
        rw [ey, show gRow r1 t1 b1 (b1 - t1 + 1) true = b1 by simp only [gRow, cl, if_true, if_false, Bool.false_eq_true]; omega] at this
        exact this
      have Hg2 := Lib.hid fun W => goto_ok r1 c1 t1 b1 1 1 true hok W
      have Hh := Lib.hid fun W => home_any r1 c1 t1 b1 true hok W
      have Hg3 : Hid (∀ W, Calls Try.prog 25 #[.agg #[.int .i64 r1, .int .i64 c1, .int .i64 t1, .int .i64 b1, .bool true], .int .i64 (-5), .int .i64 0] W (Ret (.tuple #[.agg #[.int .i64 (gRow r1 t1 b1 1 true), .int .i64 (gCol c1 1), .bool false], .int .i64 0]) W)) := by
        refine Lib.hid fun W => ?_
        have := goto_ok r1 c1 t1 b1 (-5) 0 true hok W
        rw [show gCol c1 0 = gCol c1 1 by simp only [gCol, cl]; omega, show gRow r1 t1 b1 (-5) true = gRow r1 t1 b1 1 true by simp only [gRow, cl, if_true, if_false, Bool.false_eq_true]; omega] at this
        exact this
      generalize gRow r1 t1 b1 1 true = hx at *
      generalize gCol c1 1 = hy at *
      clear hok hat ey
      go_wp2_with (first | (go_at_call 25; (with_reducible refine (Hg1.out _).mono ?_); rintro e w' ⟨rfl, h1, d1, rfl⟩) | (go_at_call 25; (with_reducible refine (Hg3.out _).mono ?_); rintro e w' ⟨rfl, h2, d2, rfl⟩) | (go_at_call 25; (with_reducible refine (Hg2.out _).mono ?_); rintro e w' ⟨rfl, h3, d3, rfl⟩) | (go_at_call 26; (with_reducible refine (Hh.out _).mono ?_); rintro e w' ⟨rfl, h4, d4, rfl⟩) | (go_at_call 27; refine (is_yes _ _ _ _ _ _ (by simp) _).mono ?_; rintro e w' ⟨rfl, h5, d5, rfl⟩))
      go_returns
      exact ⟨rfl, (by repeat' (first | (with_reducible exact hG) | (with_reducible refine Grows.setCell ?_ hn2 _) | (with_reducible exact Grows.refl _) | (with_reducible refine Grows.alloc ?_ _) | (with_reducible refine Grows.drew ?_) | (with_reducible refine Grows.ext ?_ _ _)))⟩
end Go.Proofs.Ytepbknpdhiaepaa
