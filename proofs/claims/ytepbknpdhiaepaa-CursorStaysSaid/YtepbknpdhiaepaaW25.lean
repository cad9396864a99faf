/-
  Walk: the law CursorStays, a slice that is not empty.
-/
import Derived.Test.YtepbknpdhiaepaaRows
import Derived.Test.YtepbknpdhiaepaaLt
import Derived.Test.YtepbknpdhiaepaaDefs
import Derived.Test.YtepbknpdhiaepaaCel
import Derived.Test.YtepbknpdhiaepaaW1
import Derived.Test.YtepbknpdhiaepaaW2
import Derived.Test.YtepbknpdhiaepaaW3
import Derived.Test.YtepbknpdhiaepaaW13
import Derived.Test.YtepbknpdhiaepaaW14
import Derived.Test.YtepbknpdhiaepaaW15
import Derived.Test.YtepbknpdhiaepaaW16
import Derived.Test.YtepbknpdhiaepaaW18
import Derived.Test.YtepbknpdhiaepaaW23
import Derived.Test.YtepbknpdhiaepaaIX
import Derived.Test.YtepbknpdhiaepaaW24
import Derived.WalkKit
import Derived.WalkSpells
import Derived.WalkLawsBesides
import Derived.Handy
import Derived.Lib.Hide
import Derived.Deep.Light
import Derived.Deep.LoopGhost
import Derived.BigGuardPart
import Derived.BigQuiet
import Derived.Deep.QuietTactic
import Derived.Deep.RegionHeld3
import Derived.Test.YtepbknpdhiaepaaReg
import Derived.Test.YtepbknpdhiaepaaReg3
import Derived.Test.YtepbknpdhiaepaaReg4
namespace Go.Proofs.Ytepbknpdhiaepaa
open Go.RowKit


set_option maxRecDepth 100000 in
set_option maxHeartbeats 20000000 in
theorem lawStays_true (rows cols top long row col : Int) (od wd : Bool) (h1 : 0 ≤ rows ∧ rows < 256) (h2 : 0 ≤ cols ∧ cols < 256) (h3 : 0 ≤ top ∧ top < 256) (h4 : 0 ≤ long ∧ long < 256) (h5 : 0 ≤ row ∧ row < 256) (h6 : 0 ≤ col ∧ col < 256) (bl off len cap : Nat) (p0 p1 p2 p3 : Nat → Int) (w : World) (hlen : len ≤ 9223372036854775807) (hbl : bl < w.heap.size) (rr0 : ∀ i, i < len → 0 ≤ p0 i ∧ p0 i < 256) (rr1 : ∀ i, i < len → 0 ≤ p1 i ∧ p1 i < 256) (z0 : ∀ i, i < len → w.cell? ⟨bl, off + i * 4, none⟩ = some (.int .u8 (p0 i))) (z1 : ∀ i, i < len → w.cell? ⟨bl, off + i * 4 + 1, none⟩ = some (.int .u8 (p1 i))) (z2 : ∀ i, i < len → w.cell? ⟨bl, off + i * 4 + 2, none⟩ = some (.int .i64 (p2 i))) (z3 : ∀ i, i < len → w.cell? ⟨bl, off + i * 4 + 3, none⟩ = some (.int .i64 (p3 i))) : Calls Try.prog 8 #[.agg #[.int .u8 rows, .int .u8 cols, .int .u8 top, .int .u8 long, .int .u8 row, .int .u8 col, .bool od, .bool wd], .slice (some ⟨bl, off, none⟩) len cap] w (Ret (.bool true) w) := by
  have hok := dOk (top := top) (long := long) h1.1 h2.1 h3.1 h4.1
  have hat := dAt (cols := cols) (top := top) (row := row) (col := col) (wr := wd) h1.1 h2.1 h3.1 h4.1
  have hf := fun W => dfield_any rows cols top long row col od wd h1 h2 h3 h4 h5 h6 W
  have hcu := fun W => dcursor_any rows cols top long row col od wd h1 h2 h3 h4 h5 h6 W
  generalize dR rows = r1 at *
  generalize dC cols = c1 at *
  generalize dT rows top long = t1 at *
  generalize dB rows top long = b1 at *
  generalize dRow rows top long row = x1 at *
  generalize dCol cols col = y1 at *
  generalize dWr cols col wd = g1 at *
  have Hf := Lib.hid hf
  have Hc := Lib.hid hcu
  clear hf hcu h1 h2 h3 h4 h5 h6
  have Hr0 := Lib.hid rr0
  have Hr1 := Lib.hid rr1
  have H0 := Lib.hid z0
  have H1 := Lib.hid z1
  have H2 := Lib.hid z2
  have H3 := Lib.hid z3
  clear rr0 rr1 z0 z1 z2 z3
  go_enter Try.func8, Try.ntmps8
  go_wp2_with (go_at_call 22; refine (works_true _).mono ?_; rintro e w' ⟨rfl, h9, d9, rfl⟩)
  try simp only [ext_ext]
  refine wp_region_makes2 5 5 7 6 6 8 (.cells #[.int .i64 0, .int .i64 0, .int .i64 0, .int .i64 0, .bool false] 23) (.cells #[.int .i64 r1, .int .i64 c1, .int .i64 t1, .int .i64 b1, .bool od] 23) (.cells #[.int .i64 0, .int .i64 0, .bool false] 27) (.cells #[.int .i64 x1, .int .i64 y1, .bool g1] 27) (by kernel_rfl) (by kernel_rfl) rfl rfl (fun _ _ => by simp [go_sem]) (fun _ _ => by simp [go_sem]) ?_
  repeat (first | (refine spWalk_op (by rfl) (fun K hK => ?_); go_simp; (try go_ints); first | (refine hK _ ?_; clear hK K) | (apply Exists.intro; refine ⟨fun xg => ?_, hK _ ?_⟩; (first | (go_at_call 12; exact Hf.out _) | (go_at_call 11; exact own_any _ _ _ _ _ _) | (go_at_call 14; exact Hc.out _)); clear hK K)) | (refine spWalk_sp (by rfl) (asks2 ?_ ?_) ?_; (intro h; (first | (simp [mk, Mk.s] at h; done) | (exact fillsM_store rfl 23 (.tmp 5) (.tmp 16) rfl #[.int .i64 0, .int .i64 0, .int .i64 0, .int .i64 0, .bool false] #[.int .i64 r1, .int .i64 c1, .int .i64 t1, .int .i64 b1, .bool od] 23 rfl rfl (fun _ => rfl) (fun _ => rfl) (by kernel_rfl) rfl (by simp [Value.oneCell'])))); (intro h; (first | (simp [mk, Mk.s] at h; done) | (exact fillsM_store rfl 27 (.tmp 6) (.tmp 18) rfl #[.int .i64 0, .int .i64 0, .bool false] #[.int .i64 x1, .int .i64 y1, .bool g1] 27 rfl rfl (fun _ => rfl) (fun _ => rfl) (by kernel_rfl) rfl (by simp [Value.oneCell']))))))
  refine spWalk_nil ?_
  intro n89a n89b W89 hG89 hA89 hB89 hN89 hO89 hP89
  simp only [Act.put, List.getElem_toArray, List.getElem_cons_succ, List.getElem_cons_zero, List.setIfInBounds_toArray, List.set_cons_zero, List.set_cons_succ]
  obtain ⟨k0, k1, k2, k3, k4, k5⟩ := fld_of hO89
  obtain ⟨q0, q1, q2, q3, q4, q5, q6⟩ := cur_of hP89
  have hne := hN89 (by decide)
  have hn1 : w.heap.size ≤ n89a := by simp only [ext_size, World.size_alloc] at hA89; omega
  have hn2 : w.heap.size ≤ n89b := by simp only [ext_size, World.size_alloc] at hB89; omega
  have hG : Grows w W89 := Grows.trans (by repeat' (first | (with_reducible exact Grows.refl _) | (with_reducible refine Grows.alloc ?_ _) | (with_reducible refine Grows.drew ?_) | (with_reducible refine Grows.ext ?_ _ _))) hG89
  have hF := fld_of hO89
  have hC := cur_of hP89
  clear hG89 hA89 hB89 hN89 hO89 hP89
  generalize n89a = B1 at *
  generalize n89b = B2 at *
  generalize W89 = W at *
  have Hck : Hid (∀ V, Calls Try.prog 33 #[.agg #[.int .i64 r1, .int .i64 c1, .int .i64 t1, .int .i64 b1, .bool od]] V (Ret (.int .i64 0) V)) := Lib.hid fun V => by
    have := check_any r1 c1 t1 b1 od V
    rw [hok, fErr_true] at this
    exact this
  have Hca : Hid (∀ x y g, atB r1 c1 x y g = true → ∀ V, Calls Try.prog 34 #[.agg #[.int .i64 r1, .int .i64 c1, .int .i64 t1, .int .i64 b1, .bool od], .agg #[.int .i64 x, .int .i64 y, .bool g]] V (Ret (.int .i64 0) V)) := Lib.hid fun x y g h V => by
    have := checkAt_any r1 c1 t1 b1 x y od g V
    rw [hok, h, cErr_true] at this
    exact this
  have Hc1 := Lib.hid (Hca.out x1 y1 g1 hat)
  go_wp2_with (first | (go_at_call 33; (with_reducible refine (Hck.out _).mono ?_); rintro e w' ⟨rfl, h1, d1, rfl⟩) | (go_at_call 34; (with_reducible refine (Hc1.out _).mono ?_); rintro e w' ⟨rfl, h2, d2, rfl⟩))
  go_loopw [7] (fun i wr' => ∃ (wv : World) (k : Nat) (x y : Int) (g : Bool), wv = wr' ∧ k ≤ len ∧ k ≤ 30 ∧ i = .int .i64 k ∧ atB r1 c1 x y g = true ∧ FldAt wv B1 r1 c1 t1 b1 od ∧ CurAt wv B2 x y g ∧ Grows w wv) (fun i _ => 30 - (intOf i).toNat)
  case atStart => exact ⟨_, 0, x1, y1, g1, rfl, by omega, by omega, rfl, hat, FldAt.grows hF (by repeat' (first | (with_reducible exact Grows.refl _) | (with_reducible refine Grows.alloc ?_ _) | (with_reducible refine Grows.drew ?_) | (with_reducible refine Grows.ext ?_ _ _))), CurAt.grows hC (by repeat' (first | (with_reducible exact Grows.refl _) | (with_reducible refine Grows.alloc ?_ _) | (with_reducible refine Grows.drew ?_) | (with_reducible refine Grows.ext ?_ _ _))), (by repeat' (first | (with_reducible exact hG) | (with_reducible refine Grows.setCell ?_ hn2 _) | (with_reducible exact Grows.refl _) | (with_reducible refine Grows.alloc ?_ _) | (with_reducible refine Grows.drew ?_) | (with_reducible refine Grows.ext ?_ _ _)))⟩
  case round =>
    obtain ⟨wv, k, x, y, g, rfl, hk, hk30, rfl, hat2, hF, hC, hG⟩ := hrel
    clear k0 k1 k2 k3 k4 k5 q0 q1 q2 q3 q4 q5 q6
    have hF0 := hF
    have hC0 := hC
    have hne3 : ¬ B2 = B1 := fun e => hne e.symm
    obtain ⟨k0, k1, k2, k3, k4, k5⟩ := hF
    obtain ⟨q0, q1, q2, q3, q4, q5, q6⟩ := hC
    by_cases hkl : k < len
    · by_cases hk3 : k < 30
      · have hl1 : decide ((k : Int) < (len : Int)) = true := by simp; omega
        have hl2 : decide ((k : Int) < 30) = true := by simp; omega
        have u0 := Hr0.out k hkl
        have u1 := Hr1.out k hkl
        have s0 := (Grows.cell hG bl (off + k * 4) hbl).1.trans (H0.out k hkl)
        have s1 := (Grows.cell hG bl (off + k * 4 + 1) hbl).1.trans (H1.out k hkl)
        have s2 := (Grows.cell hG bl (off + k * 4 + 2) hbl).1.trans (H2.out k hkl)
        have s3 := (Grows.cell hG bl (off + k * 4 + 3) hbl).1.trans (H3.out k hkl)
        have hb0 := (Grows.cell hG bl 0 hbl).2
        have hd := fun V => done_any r1 c1 t1 b1 x y (p0 k) (p1 k) (p2 k) (p3 k) od g hok hat2 u0 u1 V
        obtain ⟨hat3, hin⟩ := st_law (n := p2 k) (m := p3 k) (o := od) hok hat2 u0 u1
        generalize stRow r1 c1 t1 b1 x (p0 k) (p1 k) (p2 k) od = nx at *
        generalize stCol r1 c1 y (p0 k) (p1 k) (p2 k) (p3 k) = ny at *
        have Hd := Lib.hid hd
        have Hc3 := Lib.hid (Hca.out nx ny false hat3)
        clear hd
        generalize p0 k = a0 at *
        generalize p1 k = a1 at *
        generalize p2 k = a2 at *
        generalize p3 k = a3 at *
        obtain ⟨u0, u0'⟩ := u0
        clear u1
        have hcase : (decide (t1 ≤ x) = false) ∨ (decide (t1 ≤ x) = true ∧ decide (x ≤ b1) = false) ∨ (decide (t1 ≤ x) = true ∧ decide (x ≤ b1) = true ∧ decide (a0 % 8 < 4) = true ∧ od = false) ∨ (decide (t1 ≤ x) = true ∧ decide (x ≤ b1) = true ∧ (decide (a0 % 8 < 4) = true ∧ od = true) ∧ decide (nx < t1) = false ∧ decide (b1 < nx) = false) ∨ (decide (t1 ≤ x) = true ∧ decide (x ≤ b1) = true ∧ decide (a0 % 8 < 4) = false ∧ decide (nx < t1) = false ∧ decide (b1 < nx) = false) := by
          simp only [decide_eq_true_eq, decide_eq_false_iff_not]
          cases od
          · by_cases hm : a0 % 8 < 4 <;> by_cases hn : t1 ≤ x ∧ x ≤ b1
            · simp; omega
            · simp; omega
            · have := hin hn (fun h => absurd h hm); simp; omega
            · simp; omega
          · by_cases hn : t1 ≤ x ∧ x ≤ b1
            · have := hin hn (fun _ => rfl); simp; omega
            · simp; omega
        clear hin
        have Hat3 := Lib.hid hat3
        clear hat2 hat3 hok hat
        rcases hcase with e1 | ⟨e1, e2⟩ | ⟨e1, e2, e3, rfl⟩ | ⟨e1, e2, ⟨e3, rfl⟩, e4, e5⟩ | ⟨e1, e2, e3, e4, e5⟩
        · cases e3 : decide (a0 % 8 < 4)
          · skip
            go_wp2_with fail
            try simp only [ext_ext]
            first | (refine wp_region_fill_ext 10 11 (.cells #[.int .i64 0, .int .i64 0, .bool false] 27) (O' := ?ob90a) (by kernel_rfl) (by kernel_rfl) rfl rfl rfl rfl rfl (fun _ _ => by simp [go_sem]) ?_) | (refine wp_region_fill 10 11 (.cells #[.int .i64 0, .int .i64 0, .bool false] 27) (O' := ?ob90b) (by kernel_rfl) (by kernel_rfl) rfl rfl rfl rfl rfl (fun _ _ => by simp [go_sem]) ?_)
            rotate_left
            repeat (first | (refine xWalk_make rfl ?_) | (refine xWalk_op (by decide) (by decide) (fun K hK => ?_); go_simp; (try go_ints); first | (refine hK _ ?_; clear hK K) | (apply Exists.intro; refine ⟨fun xg => ?_, hK _ ?_⟩; (first | (go_at_call 35; exact Hd.out _)); clear hK K)) | (refine xWalk_fill (by decide) rfl ?_ ?_; (intro xf yf; simp [go_sem, newPtr]; rfl)))
            refine xWalk_nil ?_
            intro x90 y90
            simp only [newPtr, ext_size, World.size_alloc, World.size_setCell, Array.size_append]
            simp only [Act.put, List.getElem_toArray, List.getElem_cons_succ, List.getElem_cons_zero, List.setIfInBounds_toArray, List.set_cons_zero, List.set_cons_succ]
            go_wp2_with (first | (go_at_call 34; (with_reducible refine (Hc3.out _).mono ?_); rintro e w' ⟨rfl, h3, d3, rfl⟩))
            go_roundw
            case rel =>
              refine ⟨_, k + 1, nx, ny, false, rfl, by omega, by omega, by go_num, Hat3.out, ?_, ?_, (by repeat' (first | (with_reducible exact hG) | (with_reducible refine Grows.setCell ?_ hn2 _) | (with_reducible exact Grows.refl _) | (with_reducible refine Grows.alloc ?_ _) | (with_reducible refine Grows.drew ?_) | (with_reducible refine Grows.ext ?_ _ _)))⟩
              · exact FldAt.grows (((hF0.set hne3 _ _).set hne3 _ _).set hne3 _ _) (by repeat' (first | (with_reducible exact Grows.refl _) | (with_reducible refine Grows.alloc ?_ _) | (with_reducible refine Grows.drew ?_) | (with_reducible refine Grows.ext ?_ _ _)))
              · exact CurAt.grows (hC0.set3 _ _ _) (by repeat' (first | (with_reducible exact Grows.refl _) | (with_reducible refine Grows.alloc ?_ _) | (with_reducible refine Grows.drew ?_) | (with_reducible refine Grows.ext ?_ _ _)))
            case measure => simp [intOf]; omega
          · skip
            go_wp2_with fail
            try simp only [ext_ext]
            first | (refine wp_region_fill_ext 10 11 (.cells #[.int .i64 0, .int .i64 0, .bool false] 27) (O' := ?ob91a) (by kernel_rfl) (by kernel_rfl) rfl rfl rfl rfl rfl (fun _ _ => by simp [go_sem]) ?_) | (refine wp_region_fill 10 11 (.cells #[.int .i64 0, .int .i64 0, .bool false] 27) (O' := ?ob91b) (by kernel_rfl) (by kernel_rfl) rfl rfl rfl rfl rfl (fun _ _ => by simp [go_sem]) ?_)
            rotate_left
            repeat (first | (refine xWalk_make rfl ?_) | (refine xWalk_op (by decide) (by decide) (fun K hK => ?_); go_simp; (try go_ints); first | (refine hK _ ?_; clear hK K) | (apply Exists.intro; refine ⟨fun xg => ?_, hK _ ?_⟩; (first | (go_at_call 35; exact Hd.out _)); clear hK K)) | (refine xWalk_fill (by decide) rfl ?_ ?_; (intro xf yf; simp [go_sem, newPtr]; rfl)))
            refine xWalk_nil ?_
            intro x91 y91
            simp only [newPtr, ext_size, World.size_alloc, World.size_setCell, Array.size_append]
            simp only [Act.put, List.getElem_toArray, List.getElem_cons_succ, List.getElem_cons_zero, List.setIfInBounds_toArray, List.set_cons_zero, List.set_cons_succ]
            go_wp2_with (first | (go_at_call 34; (with_reducible refine (Hc3.out _).mono ?_); rintro e w' ⟨rfl, h3, d3, rfl⟩))
            go_roundw
            case rel =>
              refine ⟨_, k + 1, nx, ny, false, rfl, by omega, by omega, by go_num, Hat3.out, ?_, ?_, (by repeat' (first | (with_reducible exact hG) | (with_reducible refine Grows.setCell ?_ hn2 _) | (with_reducible exact Grows.refl _) | (with_reducible refine Grows.alloc ?_ _) | (with_reducible refine Grows.drew ?_) | (with_reducible refine Grows.ext ?_ _ _)))⟩
              · exact FldAt.grows (((hF0.set hne3 _ _).set hne3 _ _).set hne3 _ _) (by repeat' (first | (with_reducible exact Grows.refl _) | (with_reducible refine Grows.alloc ?_ _) | (with_reducible refine Grows.drew ?_) | (with_reducible refine Grows.ext ?_ _ _)))
              · exact CurAt.grows (hC0.set3 _ _ _) (by repeat' (first | (with_reducible exact Grows.refl _) | (with_reducible refine Grows.alloc ?_ _) | (with_reducible refine Grows.drew ?_) | (with_reducible refine Grows.ext ?_ _ _)))
            case measure => simp [intOf]; omega
        · cases e3 : decide (a0 % 8 < 4)
          · skip
            go_wp2_with fail
            try simp only [ext_ext]
            first | (refine wp_region_fill_ext 10 11 (.cells #[.int .i64 0, .int .i64 0, .bool false] 27) (O' := ?ob92a) (by kernel_rfl) (by kernel_rfl) rfl rfl rfl rfl rfl (fun _ _ => by simp [go_sem]) ?_) | (refine wp_region_fill 10 11 (.cells #[.int .i64 0, .int .i64 0, .bool false] 27) (O' := ?ob92b) (by kernel_rfl) (by kernel_rfl) rfl rfl rfl rfl rfl (fun _ _ => by simp [go_sem]) ?_)
            rotate_left
            repeat (first | (refine xWalk_make rfl ?_) | (refine xWalk_op (by decide) (by decide) (fun K hK => ?_); go_simp; (try go_ints); first | (refine hK _ ?_; clear hK K) | (apply Exists.intro; refine ⟨fun xg => ?_, hK _ ?_⟩; (first | (go_at_call 35; exact Hd.out _)); clear hK K)) | (refine xWalk_fill (by decide) rfl ?_ ?_; (intro xf yf; simp [go_sem, newPtr]; rfl)))
            refine xWalk_nil ?_
            intro x92 y92
            simp only [newPtr, ext_size, World.size_alloc, World.size_setCell, Array.size_append]
            simp only [Act.put, List.getElem_toArray, List.getElem_cons_succ, List.getElem_cons_zero, List.setIfInBounds_toArray, List.set_cons_zero, List.set_cons_succ]
            go_wp2_with (first | (go_at_call 34; (with_reducible refine (Hc3.out _).mono ?_); rintro e w' ⟨rfl, h3, d3, rfl⟩))
            go_roundw
            case rel =>
              refine ⟨_, k + 1, nx, ny, false, rfl, by omega, by omega, by go_num, Hat3.out, ?_, ?_, (by repeat' (first | (with_reducible exact hG) | (with_reducible refine Grows.setCell ?_ hn2 _) | (with_reducible exact Grows.refl _) | (with_reducible refine Grows.alloc ?_ _) | (with_reducible refine Grows.drew ?_) | (with_reducible refine Grows.ext ?_ _ _)))⟩
              · exact FldAt.grows (((hF0.set hne3 _ _).set hne3 _ _).set hne3 _ _) (by repeat' (first | (with_reducible exact Grows.refl _) | (with_reducible refine Grows.alloc ?_ _) | (with_reducible refine Grows.drew ?_) | (with_reducible refine Grows.ext ?_ _ _)))
              · exact CurAt.grows (hC0.set3 _ _ _) (by repeat' (first | (with_reducible exact Grows.refl _) | (with_reducible refine Grows.alloc ?_ _) | (with_reducible refine Grows.drew ?_) | (with_reducible refine Grows.ext ?_ _ _)))
            case measure => simp [intOf]; omega
          · skip
            go_wp2_with fail
            try simp only [ext_ext]
            first | (refine wp_region_fill_ext 10 11 (.cells #[.int .i64 0, .int .i64 0, .bool false] 27) (O' := ?ob93a) (by kernel_rfl) (by kernel_rfl) rfl rfl rfl rfl rfl (fun _ _ => by simp [go_sem]) ?_) | (refine wp_region_fill 10 11 (.cells #[.int .i64 0, .int .i64 0, .bool false] 27) (O' := ?ob93b) (by kernel_rfl) (by kernel_rfl) rfl rfl rfl rfl rfl (fun _ _ => by simp [go_sem]) ?_)
            rotate_left
            repeat (first | (refine xWalk_make rfl ?_) | (refine xWalk_op (by decide) (by decide) (fun K hK => ?_); go_simp; (try go_ints); first | (refine hK _ ?_; clear hK K) | (apply Exists.intro; refine ⟨fun xg => ?_, hK _ ?_⟩; (first | (go_at_call 35; exact Hd.out _)); clear hK K)) | (refine xWalk_fill (by decide) rfl ?_ ?_; (intro xf yf; simp [go_sem, newPtr]; rfl)))
            refine xWalk_nil ?_
            intro x93 y93
            simp only [newPtr, ext_size, World.size_alloc, World.size_setCell, Array.size_append]
            simp only [Act.put, List.getElem_toArray, List.getElem_cons_succ, List.getElem_cons_zero, List.setIfInBounds_toArray, List.set_cons_zero, List.set_cons_succ]
            go_wp2_with (first | (go_at_call 34; (with_reducible refine (Hc3.out _).mono ?_); rintro e w' ⟨rfl, h3, d3, rfl⟩))
            go_roundw
            case rel =>
              refine ⟨_, k + 1, nx, ny, false, rfl, by omega, by omega, by go_num, Hat3.out, ?_, ?_, (by repeat' (first | (with_reducible exact hG) | (with_reducible refine Grows.setCell ?_ hn2 _) | (with_reducible exact Grows.refl _) | (with_reducible refine Grows.alloc ?_ _) | (with_reducible refine Grows.drew ?_) | (with_reducible refine Grows.ext ?_ _ _)))⟩
              · exact FldAt.grows (((hF0.set hne3 _ _).set hne3 _ _).set hne3 _ _) (by repeat' (first | (with_reducible exact Grows.refl _) | (with_reducible refine Grows.alloc ?_ _) | (with_reducible refine Grows.drew ?_) | (with_reducible refine Grows.ext ?_ _ _)))
              · exact CurAt.grows (hC0.set3 _ _ _) (by repeat' (first | (with_reducible exact Grows.refl _) | (with_reducible refine Grows.alloc ?_ _) | (with_reducible refine Grows.drew ?_) | (with_reducible refine Grows.ext ?_ _ _)))
            case measure => simp [intOf]; omega
        · skip
          go_wp2_with fail
          try simp only [ext_ext]
          first | (refine wp_region_fill_ext 10 11 (.cells #[.int .i64 0, .int .i64 0, .bool false] 27) (O' := ?ob94a) (by kernel_rfl) (by kernel_rfl) rfl rfl rfl rfl rfl (fun _ _ => by simp [go_sem]) ?_) | (refine wp_region_fill 10 11 (.cells #[.int .i64 0, .int .i64 0, .bool false] 27) (O' := ?ob94b) (by kernel_rfl) (by kernel_rfl) rfl rfl rfl rfl rfl (fun _ _ => by simp [go_sem]) ?_)
          rotate_left
          repeat (first | (refine xWalk_make rfl ?_) | (refine xWalk_op (by decide) (by decide) (fun K hK => ?_); go_simp; (try go_ints); first | (refine hK _ ?_; clear hK K) | (apply Exists.intro; refine ⟨fun xg => ?_, hK _ ?_⟩; (first | (go_at_call 35; exact Hd.out _)); clear hK K)) | (refine xWalk_fill (by decide) rfl ?_ ?_; (intro xf yf; simp [go_sem, newPtr]; rfl)))
          refine xWalk_nil ?_
          intro x94 y94
          simp only [newPtr, ext_size, World.size_alloc, World.size_setCell, Array.size_append]
          simp only [Act.put, List.getElem_toArray, List.getElem_cons_succ, List.getElem_cons_zero, List.setIfInBounds_toArray, List.set_cons_zero, List.set_cons_succ]
          go_wp2_with (first | (go_at_call 34; (with_reducible refine (Hc3.out _).mono ?_); rintro e w' ⟨rfl, h3, d3, rfl⟩))
          go_roundw
          case rel =>
            refine ⟨_, k + 1, nx, ny, false, rfl, by omega, by omega, by go_num, Hat3.out, ?_, ?_, (by repeat' (first | (with_reducible exact hG) | (with_reducible refine Grows.setCell ?_ hn2 _) | (with_reducible exact Grows.refl _) | (with_reducible refine Grows.alloc ?_ _) | (with_reducible refine Grows.drew ?_) | (with_reducible refine Grows.ext ?_ _ _)))⟩
            · exact FldAt.grows (((hF0.set hne3 _ _).set hne3 _ _).set hne3 _ _) (by repeat' (first | (with_reducible exact Grows.refl _) | (with_reducible refine Grows.alloc ?_ _) | (with_reducible refine Grows.drew ?_) | (with_reducible refine Grows.ext ?_ _ _)))
            · exact CurAt.grows (hC0.set3 _ _ _) (by repeat' (first | (with_reducible exact Grows.refl _) | (with_reducible refine Grows.alloc ?_ _) | (with_reducible refine Grows.drew ?_) | (with_reducible refine Grows.ext ?_ _ _)))
          case measure => simp [intOf]; omega
        · skip
          go_wp2_with fail
          try simp only [ext_ext]
          first | (refine wp_region_fill_ext 10 11 (.cells #[.int .i64 0, .int .i64 0, .bool false] 27) (O' := ?ob95a) (by kernel_rfl) (by kernel_rfl) rfl rfl rfl rfl rfl (fun _ _ => by simp [go_sem]) ?_) | (refine wp_region_fill 10 11 (.cells #[.int .i64 0, .int .i64 0, .bool false] 27) (O' := ?ob95b) (by kernel_rfl) (by kernel_rfl) rfl rfl rfl rfl rfl (fun _ _ => by simp [go_sem]) ?_)
          rotate_left
          repeat (first | (refine xWalk_make rfl ?_) | (refine xWalk_op (by decide) (by decide) (fun K hK => ?_); go_simp; (try go_ints); first | (refine hK _ ?_; clear hK K) | (apply Exists.intro; refine ⟨fun xg => ?_, hK _ ?_⟩; (first | (go_at_call 35; exact Hd.out _)); clear hK K)) | (refine xWalk_fill (by decide) rfl ?_ ?_; (intro xf yf; simp [go_sem, newPtr]; rfl)))
          refine xWalk_nil ?_
          intro x95 y95
          simp only [newPtr, ext_size, World.size_alloc, World.size_setCell, Array.size_append]
          simp only [Act.put, List.getElem_toArray, List.getElem_cons_succ, List.getElem_cons_zero, List.setIfInBounds_toArray, List.set_cons_zero, List.set_cons_succ]
          go_wp2_with (first | (go_at_call 34; (with_reducible refine (Hc3.out _).mono ?_); rintro e w' ⟨rfl, h3, d3, rfl⟩))
          go_roundw
          case rel =>
            refine ⟨_, k + 1, nx, ny, false, rfl, by omega, by omega, by go_num, Hat3.out, ?_, ?_, (by repeat' (first | (with_reducible exact hG) | (with_reducible refine Grows.setCell ?_ hn2 _) | (with_reducible exact Grows.refl _) | (with_reducible refine Grows.alloc ?_ _) | (with_reducible refine Grows.drew ?_) | (with_reducible refine Grows.ext ?_ _ _)))⟩
            · exact FldAt.grows (((hF0.set hne3 _ _).set hne3 _ _).set hne3 _ _) (by repeat' (first | (with_reducible exact Grows.refl _) | (with_reducible refine Grows.alloc ?_ _) | (with_reducible refine Grows.drew ?_) | (with_reducible refine Grows.ext ?_ _ _)))
            · exact CurAt.grows (hC0.set3 _ _ _) (by repeat' (first | (with_reducible exact Grows.refl _) | (with_reducible refine Grows.alloc ?_ _) | (with_reducible refine Grows.drew ?_) | (with_reducible refine Grows.ext ?_ _ _)))
          case measure => simp [intOf]; omega
        · skip
          go_wp2_with fail
          try simp only [ext_ext]
          first | (refine wp_region_fill_ext 10 11 (.cells #[.int .i64 0, .int .i64 0, .bool false] 27) (O' := ?ob96a) (by kernel_rfl) (by kernel_rfl) rfl rfl rfl rfl rfl (fun _ _ => by simp [go_sem]) ?_) | (refine wp_region_fill 10 11 (.cells #[.int .i64 0, .int .i64 0, .bool false] 27) (O' := ?ob96b) (by kernel_rfl) (by kernel_rfl) rfl rfl rfl rfl rfl (fun _ _ => by simp [go_sem]) ?_)
          rotate_left
          repeat (first | (refine xWalk_make rfl ?_) | (refine xWalk_op (by decide) (by decide) (fun K hK => ?_); go_simp; (try go_ints); first | (refine hK _ ?_; clear hK K) | (apply Exists.intro; refine ⟨fun xg => ?_, hK _ ?_⟩; (first | (go_at_call 35; exact Hd.out _)); clear hK K)) | (refine xWalk_fill (by decide) rfl ?_ ?_; (intro xf yf; simp [go_sem, newPtr]; rfl)))
          refine xWalk_nil ?_
          intro x96 y96
          simp only [newPtr, ext_size, World.size_alloc, World.size_setCell, Array.size_append]
          simp only [Act.put, List.getElem_toArray, List.getElem_cons_succ, List.getElem_cons_zero, List.setIfInBounds_toArray, List.set_cons_zero, List.set_cons_succ]
          go_wp2_with (first | (go_at_call 34; (with_reducible refine (Hc3.out _).mono ?_); rintro e w' ⟨rfl, h3, d3, rfl⟩))
          go_roundw
          case rel =>
            refine ⟨_, k + 1, nx, ny, false, rfl, by omega, by omega, by go_num, Hat3.out, ?_, ?_, (by repeat' (first | (with_reducible exact hG) | (with_reducible refine Grows.setCell ?_ hn2 _) | (with_reducible exact Grows.refl _) | (with_reducible refine Grows.alloc ?_ _) | (with_reducible refine Grows.drew ?_) | (with_reducible refine Grows.ext ?_ _ _)))⟩
            · exact FldAt.grows (((hF0.set hne3 _ _).set hne3 _ _).set hne3 _ _) (by repeat' (first | (with_reducible exact Grows.refl _) | (with_reducible refine Grows.alloc ?_ _) | (with_reducible refine Grows.drew ?_) | (with_reducible refine Grows.ext ?_ _ _)))
            · exact CurAt.grows (hC0.set3 _ _ _) (by repeat' (first | (with_reducible exact Grows.refl _) | (with_reducible refine Grows.alloc ?_ _) | (with_reducible refine Grows.drew ?_) | (with_reducible refine Grows.ext ?_ _ _)))
          case measure => simp [intOf]; omega
      · have hl2 : decide ((k : Int) < 30) = false := by simp; omega
        have hl1 : decide ((k : Int) < (len : Int)) = true := by simp; omega
        go_wp2
        go_returns
        exact ⟨rfl, hG⟩
    · have hl1 : decide ((k : Int) < (len : Int)) = false := by simp; omega
      go_wp2
      go_returns
      exact ⟨rfl, hG⟩
end Go.Proofs.Ytepbknpdhiaepaa
