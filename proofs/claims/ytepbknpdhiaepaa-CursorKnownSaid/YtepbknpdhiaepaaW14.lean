/-
  Walks: at, is, moved, margins of the law.
-/
import Derived.Test.YtepbknpdhiaepaaRows
import Derived.Test.YtepbknpdhiaepaaLt
import Derived.Test.YtepbknpdhiaepaaDefs
import Derived.Test.YtepbknpdhiaepaaW1
import Derived.Test.YtepbknpdhiaepaaW2
import Derived.Test.YtepbknpdhiaepaaW3
import Derived.Test.YtepbknpdhiaepaaW5
import Derived.Test.YtepbknpdhiaepaaW6
import Derived.Test.YtepbknpdhiaepaaW7
import Derived.Test.YtepbknpdhiaepaaW8
import Derived.Test.YtepbknpdhiaepaaW9
import Derived.Test.YtepbknpdhiaepaaW10
import Derived.Test.YtepbknpdhiaepaaW11
import Derived.WalkKit
import Derived.WalkSpells
import Derived.WalkLawsBesides
import Derived.Handy
import Derived.Lib.Hide
import Derived.Deep.Light
import Derived.Deep.LoopGhost
import Derived.BigGuardPart
import Derived.BigQuiet
import Derived.Deep.QuietTactic
import Derived.Deep.RegionHeld3
import Derived.Test.YtepbknpdhiaepaaReg
import Derived.Test.YtepbknpdhiaepaaReg3
namespace Go.Proofs.Ytepbknpdhiaepaa
open Go.RowKit


set_option maxHeartbeats 400000 in
theorem lat_any (x y : Int) (w : World) : Calls Try.prog 43 #[.int .i64 x, .int .i64 y] w (Ret (.agg #[.int .i64 x, .int .i64 y, .bool false]) w) := by
  go_enter Try.func43, Try.ntmps43
  go_wp2
  go_returns
  exact ⟨rfl, (by repeat' (first | (with_reducible exact Grows.refl _) | (with_reducible refine Grows.alloc ?_ _) | (with_reducible refine Grows.drew ?_) | (with_reducible refine Grows.ext ?_ _ _)))⟩
set_option maxHeartbeats 400000 in
theorem is_yes (x y e a b : Int) (wr : Bool) (h : (e == 0 && (x == a && (y == b && wr == false))) = true) (w : World) : Calls Try.prog 27 #[.agg #[.int .i64 x, .int .i64 y, .bool wr], .int .i64 e, .int .i64 a, .int .i64 b] w (Ret (.bool true) w) := by
  simp only [Bool.and_eq_true, beq_iff_eq] at h
  obtain ⟨rfl, rfl, rfl, rfl⟩ := h
  go_enter Try.func27, Try.ntmps27
  go_wp2_with fail
  refine wp_region_grow (by kernel_rfl) (by kernel_rfl) ?_
  repeat (first | go_big_quiet_step ((first | (rename_i xg; go_at_call 43; refine (lat_any _ _ _).mono ?_; rintro _ _ ⟨rfl, h0, d0, rfl⟩; exact ⟨rfl, Gr.mk (xg.h ++ h0) d0, by simp only [ext_ext, Gr.h_mk, Gr.d_mk]⟩))) | quiet_step ((first | (rename_i xg; go_at_call 43; refine (lat_any _ _ _).mono ?_; rintro _ _ ⟨rfl, h0, d0, rfl⟩; exact ⟨rfl, Gr.mk (xg.h ++ h0) d0, by simp only [ext_ext, Gr.h_mk, Gr.d_mk, Array.append_assoc]⟩))))
  refine wpQuiet_nil ?_
  rintro _ ⟨g51, rfl⟩
  go_wp2
  go_returns
  exact ⟨rfl, (by repeat' (first | (with_reducible exact Grows.refl _) | (with_reducible refine Grows.alloc ?_ _) | (with_reducible refine Grows.drew ?_) | (with_reducible refine Grows.ext ?_ _ _)))⟩
set_option maxHeartbeats 400000 in
theorem moved_yes (r c t b x y way n a b2 : Int) (o wr : Bool) (h : (mErr (okF r c t b) (atB r c x y wr) (mOk way n) == 0 && (sel (okF r c t b && atB r c x y wr && mOk way n) (mvRow r c t b x way n) == a && (sel (okF r c t b && atB r c x y wr && mOk way n) (mvCol r c y way n) == b2 && false == false))) = true) (w : World) : Calls Try.prog 55 #[.agg #[.int .i64 r, .int .i64 c, .int .i64 t, .int .i64 b, .bool o], .agg #[.int .i64 x, .int .i64 y, .bool wr], .int .i64 way, .int .i64 n, .int .i64 a, .int .i64 b2] w (Ret (.bool true) w) := by
  have H := Lib.hid h
  clear h
  go_enter Try.func55, Try.ntmps55
  go_wp2_with (first | (go_at_call 17; refine (move_any _ _ _ _ _ _ _ _ _ _ _).mono ?_; rintro e w' ⟨rfl, h52, d52, rfl⟩) | (go_at_call 27; refine (is_yes _ _ _ _ _ _ H.out _).mono ?_; rintro e w' ⟨rfl, h53, d53, rfl⟩))
  go_returns
  exact ⟨rfl, (by repeat' (first | (with_reducible exact Grows.refl _) | (with_reducible refine Grows.alloc ?_ _) | (with_reducible refine Grows.drew ?_) | (with_reducible refine Grows.ext ?_ _ _)))⟩
set_option maxHeartbeats 400000 in
theorem lmargins_yes (r n m a b : Int) (hr : In64 r) (hn : In64 n) (hm : In64 m) (h : (mgB r n m && (sel (mgB r n m) (mgN n - 1) == a && sel (mgB r n m) (mgM r m - 1) == b)) = true) (w : World) : Calls Try.prog 44 #[.int .i64 r, .int .i64 n, .int .i64 m, .int .i64 a, .int .i64 b] w (Ret (.bool true) w) := by
  simp only [Bool.and_eq_true, beq_iff_eq] at h
  obtain ⟨h1, h2, h3⟩ := h
  go_enter Try.func44, Try.ntmps44
  go_wp2_with (go_at_call 23; refine (margins_any _ _ _ hr hn hm _).mono ?_; rw [h2, h3, h1]; rintro e w' ⟨rfl, rfl⟩)
  go_returns
  exact ⟨rfl, (by repeat' (first | (with_reducible exact Grows.refl _) | (with_reducible refine Grows.alloc ?_ _) | (with_reducible refine Grows.drew ?_) | (with_reducible refine Grows.ext ?_ _ _)))⟩
end Go.Proofs.Ytepbknpdhiaepaa
