/-
  Walk: the law CursorStays.
-/
import Derived.Test.YtepbknpdhiaepaaRows
import Derived.Test.YtepbknpdhiaepaaLt
import Derived.Test.YtepbknpdhiaepaaDefs
import Derived.Test.YtepbknpdhiaepaaCel
import Derived.Test.YtepbknpdhiaepaaW1
import Derived.Test.YtepbknpdhiaepaaW2
import Derived.Test.YtepbknpdhiaepaaW3
import Derived.Test.YtepbknpdhiaepaaW13
import Derived.Test.YtepbknpdhiaepaaW14
import Derived.Test.YtepbknpdhiaepaaW15
import Derived.Test.YtepbknpdhiaepaaW16
import Derived.Test.YtepbknpdhiaepaaW18
import Derived.Test.YtepbknpdhiaepaaW23
import Derived.Test.YtepbknpdhiaepaaIX
import Derived.WalkKit
import Derived.WalkSpells
import Derived.WalkLawsBesides
import Derived.Handy
import Derived.Lib.Hide
import Derived.Deep.Light
import Derived.Deep.LoopGhost
import Derived.BigGuardPart
import Derived.BigQuiet
import Derived.Deep.QuietTactic
import Derived.Deep.RegionHeld3
import Derived.Test.YtepbknpdhiaepaaReg
import Derived.Test.YtepbknpdhiaepaaReg3
import Derived.Test.YtepbknpdhiaepaaReg4
namespace Go.Proofs.Ytepbknpdhiaepaa
open Go.RowKit


theorem Grows.row {w w' : World} (g : Grows w w') {n : Nat} {o : Obj} (h : w.heap[n]? = some o) : w'.heap[n]? = some o := (g.below.block n (Array.getElem?_eq_some_iff.1 h).1).trans h
theorem FldAt.set {w : World} {B N : Nat} {r c t b : Int} {o : Bool} (h : FldAt w B r c t b o) (hn : ¬ N = B) (i : Nat) (v : Value) : FldAt (w.setCell ⟨N, i, none⟩ v) B r c t b o := by
  obtain ⟨k0, k1, k2, k3, k4, k5⟩ := h
  have hn' : ¬ B = N := fun e => hn e.symm
  refine ⟨by simp [go_sem, k0], ?_, ?_, ?_, ?_, ?_⟩ <;> simp [go_sem, hn, hn', *]
theorem CurAt.set3 {w : World} {B : Nat} {x y : Int} {g : Bool} (h : CurAt w B x y g) (x' y' : Int) (g' : Bool) : CurAt (((w.setCell ⟨B, 0, none⟩ (.int .i64 x')).setCell ⟨B, 1, none⟩ (.int .i64 y')).setCell ⟨B, 2, none⟩ (.bool g')) B x' y' g' := by
  obtain ⟨k0, k1, k2, k3, k4, k5, k6⟩ := h
  refine ⟨by simp [go_sem, k0], ?_, ?_, ?_, ?_, ?_, ?_⟩ <;> simp [go_sem, *]

set_option maxRecDepth 100000 in
set_option maxHeartbeats 20000000 in
theorem lawStays_nil (rows cols top long row col : Int) (od wd : Bool) (h1 : 0 ≤ rows ∧ rows < 256) (h2 : 0 ≤ cols ∧ cols < 256) (h3 : 0 ≤ top ∧ top < 256) (h4 : 0 ≤ long ∧ long < 256) (h5 : 0 ≤ row ∧ row < 256) (h6 : 0 ≤ col ∧ col < 256) (oa : Option Addr) (cap : Nat) (w : World) : Calls Try.prog 8 #[.agg #[.int .u8 rows, .int .u8 cols, .int .u8 top, .int .u8 long, .int .u8 row, .int .u8 col, .bool od, .bool wd], .slice oa 0 cap] w (Ret (.bool true) w) := by
  have hok := dOk (top := top) (long := long) h1.1 h2.1 h3.1 h4.1
  have hat := dAt (cols := cols) (top := top) (row := row) (col := col) (wr := wd) h1.1 h2.1 h3.1 h4.1
  have hf := fun W => dfield_any rows cols top long row col od wd h1 h2 h3 h4 h5 h6 W
  have hcu := fun W => dcursor_any rows cols top long row col od wd h1 h2 h3 h4 h5 h6 W
  generalize dR rows = r1 at *
  generalize dC cols = c1 at *
  generalize dT rows top long = t1 at *
  generalize dB rows top long = b1 at *
  generalize dRow rows top long row = x1 at *
  generalize dCol cols col = y1 at *
  generalize dWr cols col wd = g1 at *
  have Hf := Lib.hid hf
  have Hc := Lib.hid hcu
  clear hf hcu h1 h2 h3 h4 h5 h6
  go_enter Try.func8, Try.ntmps8
  go_wp2_with (go_at_call 22; refine (works_true _).mono ?_; rintro e w' ⟨rfl, h9, d9, rfl⟩)
  try simp only [ext_ext]
  refine wp_region_makes2 5 5 7 6 6 8 (.cells #[.int .i64 0, .int .i64 0, .int .i64 0, .int .i64 0, .bool false] 23) (.cells #[.int .i64 r1, .int .i64 c1, .int .i64 t1, .int .i64 b1, .bool od] 23) (.cells #[.int .i64 0, .int .i64 0, .bool false] 27) (.cells #[.int .i64 x1, .int .i64 y1, .bool g1] 27) (by kernel_rfl) (by kernel_rfl) rfl rfl (fun _ _ => by simp [go_sem]) (fun _ _ => by simp [go_sem]) ?_
  repeat (first | (refine spWalk_op (by rfl) (fun K hK => ?_); go_simp; (try go_ints); first | (refine hK _ ?_; clear hK K) | (apply Exists.intro; refine ⟨fun xg => ?_, hK _ ?_⟩; (first | (go_at_call 12; exact Hf.out _) | (go_at_call 11; exact own_any _ _ _ _ _ _) | (go_at_call 14; exact Hc.out _)); clear hK K)) | (refine spWalk_sp (by rfl) (asks2 ?_ ?_) ?_; (intro h; (first | (simp [mk, Mk.s] at h; done) | (exact fillsM_store rfl 23 (.tmp 5) (.tmp 16) rfl #[.int .i64 0, .int .i64 0, .int .i64 0, .int .i64 0, .bool false] #[.int .i64 r1, .int .i64 c1, .int .i64 t1, .int .i64 b1, .bool od] 23 rfl rfl (fun _ => rfl) (fun _ => rfl) (by kernel_rfl) rfl (by simp [Value.oneCell'])))); (intro h; (first | (simp [mk, Mk.s] at h; done) | (exact fillsM_store rfl 27 (.tmp 6) (.tmp 18) rfl #[.int .i64 0, .int .i64 0, .bool false] #[.int .i64 x1, .int .i64 y1, .bool g1] 27 rfl rfl (fun _ => rfl) (fun _ => rfl) (by kernel_rfl) rfl (by simp [Value.oneCell']))))))
  refine spWalk_nil ?_
  intro n88a n88b W88 hG88 hA88 hB88 hN88 hO88 hP88
  simp only [Act.put, List.getElem_toArray, List.getElem_cons_succ, List.getElem_cons_zero, List.setIfInBounds_toArray, List.set_cons_zero, List.set_cons_succ]
  obtain ⟨k0, k1, k2, k3, k4, k5⟩ := fld_of hO88
  obtain ⟨q0, q1, q2, q3, q4, q5, q6⟩ := cur_of hP88
  have hne := hN88 (by decide)
  have hn1 : w.heap.size ≤ n88a := by simp only [ext_size, World.size_alloc] at hA88; omega
  have hn2 : w.heap.size ≤ n88b := by simp only [ext_size, World.size_alloc] at hB88; omega
  have hG : Grows w W88 := Grows.trans (by repeat' (first | (with_reducible exact Grows.refl _) | (with_reducible refine Grows.alloc ?_ _) | (with_reducible refine Grows.drew ?_) | (with_reducible refine Grows.ext ?_ _ _))) hG88
  have hF := fld_of hO88
  have hC := cur_of hP88
  clear hG88 hA88 hB88 hN88 hO88 hP88
  generalize n88a = B1 at *
  generalize n88b = B2 at *
  generalize W88 = W at *
  have Hck : Hid (∀ V, Calls Try.prog 33 #[.agg #[.int .i64 r1, .int .i64 c1, .int .i64 t1, .int .i64 b1, .bool od]] V (Ret (.int .i64 0) V)) := Lib.hid fun V => by
    have := check_any r1 c1 t1 b1 od V
    rw [hok, fErr_true] at this
    exact this
  have Hca : Hid (∀ x y g, atB r1 c1 x y g = true → ∀ V, Calls Try.prog 34 #[.agg #[.int .i64 r1, .int .i64 c1, .int .i64 t1, .int .i64 b1, .bool od], .agg #[.int .i64 x, .int .i64 y, .bool g]] V (Ret (.int .i64 0) V)) := Lib.hid fun x y g h V => by
    have := checkAt_any r1 c1 t1 b1 x y od g V
    rw [hok, h, cErr_true] at this
    exact this
  have Hc1 := Lib.hid (Hca.out x1 y1 g1 hat)
  go_wp2_with (first | (go_at_call 33; (with_reducible refine (Hck.out _).mono ?_); rintro e w' ⟨rfl, h1, d1, rfl⟩) | (go_at_call 34; (with_reducible refine (Hc1.out _).mono ?_); rintro e w' ⟨rfl, h2, d2, rfl⟩))
  go_loopw [7] (fun i wr' => ∃ (wv : World) (k : Nat) (x y : Int) (g : Bool), wv = wr' ∧ k ≤ 0 ∧ k ≤ 30 ∧ i = .int .i64 k ∧ atB r1 c1 x y g = true ∧ FldAt wv B1 r1 c1 t1 b1 od ∧ CurAt wv B2 x y g ∧ Grows w wv) (fun i _ => 30 - (intOf i).toNat)
  case atStart => exact ⟨_, 0, x1, y1, g1, rfl, by omega, by omega, rfl, hat, FldAt.grows hF (by repeat' (first | (with_reducible exact Grows.refl _) | (with_reducible refine Grows.alloc ?_ _) | (with_reducible refine Grows.drew ?_) | (with_reducible refine Grows.ext ?_ _ _))), CurAt.grows hC (by repeat' (first | (with_reducible exact Grows.refl _) | (with_reducible refine Grows.alloc ?_ _) | (with_reducible refine Grows.drew ?_) | (with_reducible refine Grows.ext ?_ _ _))), (by repeat' (first | (with_reducible exact hG) | (with_reducible refine Grows.setCell ?_ hn2 _) | (with_reducible exact Grows.refl _) | (with_reducible refine Grows.alloc ?_ _) | (with_reducible refine Grows.drew ?_) | (with_reducible refine Grows.ext ?_ _ _)))⟩
  case round =>
    obtain ⟨wv, k, x, y, g, rfl, hk, hk30, rfl, hat2, hF, hC, hG⟩ := hrel
    obtain rfl : k = 0 := by omega
    go_wp2
    go_returns
    exact ⟨rfl, hG⟩
end Go.Proofs.Ytepbknpdhiaepaa
