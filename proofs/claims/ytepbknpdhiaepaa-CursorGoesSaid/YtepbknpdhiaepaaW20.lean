/-
  Walk: the law CursorGoes.
-/
import Derived.Test.YtepbknpdhiaepaaRows
import Derived.Test.YtepbknpdhiaepaaLt
import Derived.Test.YtepbknpdhiaepaaDefs
import Derived.Test.YtepbknpdhiaepaaCel
import Derived.Test.YtepbknpdhiaepaaAbs
import Derived.Test.YtepbknpdhiaepaaW1
import Derived.Test.YtepbknpdhiaepaaW2
import Derived.Test.YtepbknpdhiaepaaW4
import Derived.Test.YtepbknpdhiaepaaW5
import Derived.Test.YtepbknpdhiaepaaW7
import Derived.Test.YtepbknpdhiaepaaW12
import Derived.Test.YtepbknpdhiaepaaW13
import Derived.Test.YtepbknpdhiaepaaW15
import Derived.Test.YtepbknpdhiaepaaW16
import Derived.Test.YtepbknpdhiaepaaW18
import Derived.Test.YtepbknpdhiaepaaIX
import Derived.WalkKit
import Derived.WalkSpells
import Derived.WalkLawsBesides
import Derived.Handy
import Derived.Lib.Hide
import Derived.Deep.Light
import Derived.Deep.LoopGhost
import Derived.BigGuardPart
import Derived.BigQuiet
import Derived.Deep.QuietTactic
import Derived.Deep.RegionHeld3
import Derived.Test.YtepbknpdhiaepaaReg
import Derived.Test.YtepbknpdhiaepaaReg3
namespace Go.Proofs.Ytepbknpdhiaepaa
open Go.RowKit


theorem idx61_0 (x0 x1 x2 x3 : Value) (w : World) : (Instr.index 61 (.agg #[x0, x1, x2, x3]) (.int .i64 0)).run Try.prog w = .ok (.agg #[x0, x1]) w := by kernel_rfl
theorem idx61_1 (x0 x1 x2 x3 : Value) (w : World) : (Instr.index 61 (.agg #[x0, x1, x2, x3]) (.int .i64 1)).run Try.prog w = .ok (.agg #[x2, x3]) w := by kernel_rfl
theorem index61 (a b c d : Int) (k : Nat) (hk : k < 2) : ∃ y z : Int, ∀ w, (Instr.index 61 (.agg #[.int .i64 a, .int .i64 b, .int .i64 c, .int .i64 d]) (.int .i64 k)).run Try.prog w = .ok (.agg #[.int .i64 y, .int .i64 z]) w := by
  have hk : k = 0 ∨ k = 1 := by omega
  rcases hk with rfl | rfl
  · exact ⟨a, b, fun w => idx61_0 _ _ _ _ w⟩
  · exact ⟨c, d, fun w => idx61_1 _ _ _ _ w⟩
theorem home_row {r c t b : Int} {o : Bool} (h : okF r c t b = true) : (if o then t else 0) = gRow r t b 1 o := by
  obtain ⟨f1, f2, f3, f4, f5⟩ := okF_iff.1 h
  cases o
  · simp only [gRow, cl, if_false, Bool.false_eq_true]
    omega
  · simp only [gRow, cl, if_true]
    omega
theorem home_col {r c t b : Int} (h : okF r c t b = true) : 0 = gCol c 1 := by
  obtain ⟨f1, f2, f3, f4, f5⟩ := okF_iff.1 h
  simp only [gCol, cl]
  omega
theorem rhome_ok (r c t b : Int) (o : Bool) (h : okF r c t b = true) (w : World) : Calls Try.prog 29 #[.agg #[.int .i64 r, .int .i64 c, .int .i64 t, .int .i64 b, .bool o]] w (Ret (.agg #[.int .i64 (gRow r t b 1 o), .int .i64 (gCol c 1), .bool false]) w) := by
  have := rhome_any r c t b o w
  rw [home_row h] at this
  rw [← home_col h]
  exact this
set_option maxHeartbeats 400000 in
theorem home_no (r c t b : Int) (o : Bool) (h : okF r c t b = false) (w : World) : Calls Try.prog 26 #[.agg #[.int .i64 r, .int .i64 c, .int .i64 t, .int .i64 b, .bool o]] w (Ret (.tuple #[.agg #[.int .i64 0, .int .i64 0, .bool false], .int .i64 270]) w) := by
  go_enter Try.func26, Try.ntmps26
  go_wp2_with (go_at_call 25; refine (goto_no _ _ _ _ _ _ _ h _).mono ?_; rintro e w' ⟨rfl, h0, d0, rfl⟩)
  go_returns
  exact ⟨rfl, (by repeat' (first | (with_reducible exact Grows.refl _) | (with_reducible refine Grows.alloc ?_ _) | (with_reducible refine Grows.drew ?_) | (with_reducible refine Grows.ext ?_ _ _)))⟩
theorem setRow_far {w : World} {n N i : Nat} {cs : Array Value} (h : n ≠ N) : (w.setRow N cs).cell? ⟨n, i, none⟩ = w.cell? ⟨n, i, none⟩ := by
  apply World.cell?_of_block
  simp only [World.setRow, Array.getElem?_modify]
  rw [if_neg (Ne.symm h)]
theorem Grows.setRow {w w' : World} (g : Grows w w') {N : Nat} (hn : w.heap.size ≤ N) (cs : Array Value) : Grows w (w'.setRow N cs) := by
  have b := g.below
  refine Grows.of_below ⟨b.os, b.tape, b.output, by simp [World.setRow]; exact b.size, fun k hk => ?_⟩
  rw [← b.block k hk]
  simp only [World.setRow, Array.getElem?_modify]
  rw [if_neg (by omega)]
section
theorem wp_region_held_low {P : Program} {id : Nat} {ops : Array Oper} {Q : Exit → Act → World → Prop} {a : Act} {w : World} (hm : P.follows .mixedOrders = true)
    (h : (∀ n i, n + 2 < w.heap.size → w.drew.cell? ⟨n, i, none⟩ = w.cell? ⟨n, i, none⟩) → wpAnyH P .any ops Q (fun w' => ∀ n i, n + 2 < w.heap.size → w'.cell? ⟨n, i, none⟩ = w.cell? ⟨n, i, none⟩) ops.size (Array.replicate ops.size false) a w.drew) : (Code.region id ops true).wp P Q a w :=
  wp_region_held_drew (S := fun w' => ∀ n i, n + 2 < w.heap.size → w'.cell? ⟨n, i, none⟩ = w.cell? ⟨n, i, none⟩) hm (fun _ _ _ => rfl) h
end

set_option maxRecDepth 100000 in
set_option maxHeartbeats 20000000 in
theorem lawGoes_true (r c t b : Int) (o : Bool) (rows cols top long row col : Int) (od wd : Bool) (h1 : 0 ≤ rows ∧ rows < 256) (h2 : 0 ≤ cols ∧ cols < 256) (h3 : 0 ≤ top ∧ top < 256) (h4 : 0 ≤ long ∧ long < 256) (h5 : 0 ≤ row ∧ row < 256) (h6 : 0 ≤ col ∧ col < 256) (x y : Int) (wr : Bool) (n0 n1 : Int) (w : World) : Calls Try.prog 7 #[.agg #[.int .i64 r, .int .i64 c, .int .i64 t, .int .i64 b, .bool o], .agg #[.int .u8 rows, .int .u8 cols, .int .u8 top, .int .u8 long, .int .u8 row, .int .u8 col, .bool od, .bool wd], .agg #[.int .i64 x, .int .i64 y, .bool wr], .agg #[.int .i64 n0, .int .i64 n1]] w (Ret (.bool true) w) := by
  have hf := fun W => dfield_any rows cols top long row col od wd h1 h2 h3 h4 h5 h6 W
  have hcu := fun W => dcursor_any rows cols top long row col od wd h1 h2 h3 h4 h5 h6 W
  generalize dR rows = r1 at *
  generalize dC cols = c1 at *
  generalize dT rows top long = t1 at *
  generalize dB rows top long = b1 at *
  generalize dRow rows top long row = x1 at *
  generalize dCol cols col = y1 at *
  generalize dWr cols col wd = g1 at *
  have Hf := Lib.hid hf
  have Hc := Lib.hid hcu
  clear hf hcu h1 h2 h3 h4 h5 h6
  go_enter Try.func7, Try.ntmps7
  go_wp2_with fail
  refine wp_region_grow (by kernel_rfl) (by kernel_rfl) ?_
  repeat (first | go_big_quiet_step ((first | (rename_i xg; go_at_call 12; refine (Hf.out _).mono ?_; rintro _ _ ⟨rfl, h0, d0, rfl⟩; exact ⟨rfl, Gr.mk (xg.h ++ h0) d0, by simp only [ext_ext, Gr.h_mk, Gr.d_mk, Array.append_assoc]⟩) | (rename_i xg; go_at_call 11; refine (own_any _ _ _ _ _ _).mono ?_; rintro _ _ ⟨rfl, h0, d0, rfl⟩; exact ⟨rfl, Gr.mk (xg.h ++ h0) d0, by simp only [ext_ext, Gr.h_mk, Gr.d_mk, Array.append_assoc]⟩))) | quiet_step ((first | (rename_i xg; go_at_call 12; refine (Hf.out _).mono ?_; rintro _ _ ⟨rfl, h0, d0, rfl⟩; exact ⟨rfl, Gr.mk (xg.h ++ h0) d0, by simp only [ext_ext, Gr.h_mk, Gr.d_mk, Array.append_assoc]⟩) | (rename_i xg; go_at_call 11; refine (own_any _ _ _ _ _ _).mono ?_; rintro _ _ ⟨rfl, h0, d0, rfl⟩; exact ⟨rfl, Gr.mk (xg.h ++ h0) d0, by simp only [ext_ext, Gr.h_mk, Gr.d_mk, Array.append_assoc]⟩))))
  refine wpQuiet_nil ?_
  rintro _ ⟨g77, rfl⟩
  go_wp2_with fail
  refine abs_world (F := fun W => DrAt W (w.heap.size + 1) rows cols top long row col od wd ∧ CurAt W (w.heap.size + 1 + 1) x y wr ∧ TwoAt W (w.heap.size + 1 + 1 + 1) n0 n1 ∧ TwoAt W (w.heap.size + 1 + 1 + 1 + 1) (wrap64 (wrap64 ((IntKind.u64.wrap n0).tmod 45) - 2)) (wrap64 (wrap64 ((IntKind.u64.wrap n1).tmod 85) - 2)) ∧ Grows w W) ⟨⟨by simp [go_sem], by simp [go_sem], by simp [go_sem], by simp [go_sem], by simp [go_sem], by simp [go_sem], by simp [go_sem], by simp [go_sem], by simp [go_sem]⟩, ⟨by simp [go_sem], by simp [go_sem], by simp [go_sem], by simp [go_sem], by simp [go_sem], by simp [go_sem], by simp [go_sem]⟩, ⟨by simp [go_sem], by simp [go_sem], by simp [go_sem]⟩, ⟨by simp [go_sem], by simp [go_sem], by simp [go_sem]⟩, (by repeat' (first | (with_reducible exact Grows.refl _) | (with_reducible refine Grows.alloc ?_ _) | (with_reducible refine Grows.drew ?_) | (with_reducible refine Grows.ext ?_ _ _)))⟩ ?_
  rintro wo ⟨hDo, hCo, hn7o, hn9o, hGo⟩
  generalize w.heap.size + 1 + 1 + 1 + 1 = N9 at *
  generalize w.heap.size + 1 + 1 + 1 = N7 at *
  generalize w.heap.size + 1 + 1 = N6 at *
  generalize w.heap.size + 1 = N5 at *
  go_loopw [49] (fun i wr' => ∃ (wv : World) (k : Nat), wv = wr' ∧ k ≤ 2 ∧ i = .int .i64 k ∧ DrAt wv N5 rows cols top long row col od wd ∧ CurAt wv N6 x y wr ∧ TwoAt wv N7 n0 n1 ∧ TwoAt wv N9 (wrap64 (wrap64 ((IntKind.u64.wrap n0).tmod 45) - 2)) (wrap64 (wrap64 ((IntKind.u64.wrap n1).tmod 85) - 2)) ∧ Grows w wv) (fun i _ => 2 - (intOf i).toNat)
  case atStart => exact ⟨_, 0, rfl, by omega, rfl, hDo, hCo, hn7o, hn9o, hGo⟩
  case round =>
    obtain ⟨wv, k, rfl, hk, rfl, hD0, hC0, hn70, hn90, hG⟩ := hrel
    by_cases hkn : k = 2
    · subst hkn
      go_wp2_with (go_at_call 22; refine (works_true _).mono ?_; rintro e w' ⟨rfl, h9, d9, rfl⟩)
      go_returns
      exact ⟨rfl, (by repeat' (first | (with_reducible exact hG) | (with_reducible exact Grows.refl _) | (with_reducible refine Grows.alloc ?_ _) | (with_reducible refine Grows.drew ?_) | (with_reducible refine Grows.ext ?_ _ _)))⟩
    · obtain ⟨r2, c2, t2, b2, o2, hix⟩ := index31 r c t b r1 c1 t1 b1 o od k (by omega)
      have hlt : decide ((k : Int) < 2) = true := by simp; omega
      have hn71 := hn70
      have hn91 := hn90
      obtain ⟨m0, m1, m2⟩ := hn71
      obtain ⟨l0, l1, l2⟩ := hn91
      go_wp2_with (go_at_call 13; refine (ref_any _ _ _ _ _ _).mono ?_; rintro e w' ⟨rfl, h1, d1, rfl⟩)
      clear hix
      cases hok : okF r2 c2 t2 b2
      · skip
        go_wp2_with (first | (go_at_call 28; (with_reducible refine (right_any _ _ _ _ _ _).mono ?_); rintro e w' ⟨rfl, h2, d2, rfl⟩) | (go_at_call 26; (with_reducible refine (home_no _ _ _ _ _ hok _).mono ?_); rintro e w' ⟨rfl, h5, d5, rfl⟩))
        refine abs_world (F := fun W => FldAt W wv.heap.size r2 c2 t2 b2 o2 ∧ FldAt W (wv.heap.size + 1 + h1.size) r2 c2 t2 b2 o2 ∧ Grows wv W) ⟨⟨by simp [go_sem], by simp [go_sem], by simp [go_sem], by simp [go_sem], by simp [go_sem], by simp [go_sem]⟩, ⟨by simp [go_sem], by simp [go_sem], by simp [go_sem], by simp [go_sem], by simp [go_sem], by simp [go_sem]⟩, (by repeat' (first | (with_reducible exact Grows.refl _) | (with_reducible refine Grows.alloc ?_ _) | (with_reducible refine Grows.drew ?_) | (with_reducible refine Grows.ext ?_ _ _)))⟩ ?_
        rintro wq ⟨f1o, f2o, hGq⟩
        generalize wv.heap.size + 1 + h1.size = B2 at *
        generalize wv.heap.size = B1 at *
        go_loopw [74] (fun i wr' => ∃ (wu : World) (m : Nat), wu = wr' ∧ m ≤ 2 ∧ i = .int .i64 m ∧ FldAt wu B1 r2 c2 t2 b2 o2 ∧ FldAt wu B2 r2 c2 t2 b2 o2 ∧ Grows wv wu) (fun i _ => 2 - (intOf i).toNat)
        case atStart => exact ⟨_, 0, rfl, by omega, rfl, f1o, f2o, hGq⟩
        case round =>
          obtain ⟨wu, m, rfl, hm, rfl, f1, f2, hG2⟩ := hrel
          by_cases hmn : m = 2
          · subst hmn
            go_wp2
            go_roundw
            case rel => exact ⟨_, k + 1, rfl, by omega, by go_num, hD0.grows hG2, hC0.grows hG2, hn70.grows hG2, hn90.grows hG2, Grows.trans hG hG2⟩
            case measure => simp [intOf]; omega
          · obtain ⟨k0, k1, hix2⟩ := index61 n0 n1 (wrap64 (wrap64 ((IntKind.u64.wrap n0).tmod 45) - 2)) (wrap64 (wrap64 ((IntKind.u64.wrap n1).tmod 85) - 2)) m (by omega)
            have hmlt : decide ((m : Int) < 2) = true := by simp; omega
            obtain ⟨a0, a1, a2, a3, a4, a5, a6, a7, a8⟩ := hD0.grows hG2
            obtain ⟨q0, q1, q2, q3, q4, q5, q6⟩ := hC0.grows hG2
            have f1' := f1
            have f2' := f2
            obtain ⟨z0, z1, z2, z3, z4, z5⟩ := f1'
            obtain ⟨y0, y1', y2, y3, y4, y5⟩ := f2'
            go_wp2_with (go_at_call 25; (with_reducible refine (goto_no _ _ _ _ _ _ _ hok _).mono ?_); rintro e w' ⟨rfl, h6, d6, rfl⟩)
            clear hix2
            refine abs_world (F := fun W => DrAt W N5 rows cols top long row col od wd ∧ CurAt W N6 x y wr ∧ FldAt W B1 r2 c2 t2 b2 o2 ∧ FldAt W B2 r2 c2 t2 b2 o2 ∧ TwoAt W wu.heap.size k0 k1 ∧ CurAt W (wu.heap.size + 1) 0 0 false ∧ Grows wu W) ⟨DrAt.grows (hD0.grows hG2) (by repeat' (first | (with_reducible exact Grows.refl _) | (with_reducible refine Grows.alloc ?_ _) | (with_reducible refine Grows.drew ?_) | (with_reducible refine Grows.ext ?_ _ _))), CurAt.grows (hC0.grows hG2) (by repeat' (first | (with_reducible exact Grows.refl _) | (with_reducible refine Grows.alloc ?_ _) | (with_reducible refine Grows.drew ?_) | (with_reducible refine Grows.ext ?_ _ _))), f1.grows (by repeat' (first | (with_reducible exact Grows.refl _) | (with_reducible refine Grows.alloc ?_ _) | (with_reducible refine Grows.drew ?_) | (with_reducible refine Grows.ext ?_ _ _))), f2.grows (by repeat' (first | (with_reducible exact Grows.refl _) | (with_reducible refine Grows.alloc ?_ _) | (with_reducible refine Grows.drew ?_) | (with_reducible refine Grows.ext ?_ _ _))), ⟨by simp [go_sem], by simp [go_sem], by simp [go_sem]⟩, ⟨by simp [go_sem], by simp [go_sem], by simp [go_sem], by simp [go_sem], by simp [go_sem], by simp [go_sem], by simp [go_sem]⟩, (by repeat' (first | (with_reducible exact Grows.refl _) | (with_reducible refine Grows.alloc ?_ _) | (with_reducible refine Grows.drew ?_) | (with_reducible refine Grows.ext ?_ _ _)))⟩ ?_
            clear a0 a1 a2 a3 a4 a5 a6 a7 a8 q0 q1 q2 q3 q4 q5 q6 z0 z1 z2 z3 z4 z5 y0 y1' y2 y3 y4 y5 f1 f2
            rintro wz ⟨⟨a0, a1, a2, a3, a4, a5, a6, a7, a8⟩, ⟨q0, q1, q2, q3, q4, q5, q6⟩, f1z, f2z, f3z, f4z, hGz⟩
            generalize wu.heap.size + 1 = B4 at *
            generalize wu.heap.size = B3 at *
            refine wp_region_grow (by kernel_rfl) (by kernel_rfl) ?_
            repeat (first | go_big_quiet_step ((first | (rename_i xg; go_at_call 14; refine (Hc.out _).mono ?_; rintro _ _ ⟨rfl, h0, d0, rfl⟩; exact ⟨rfl, Gr.mk (xg.h ++ h0) d0, by simp only [ext_ext, Gr.h_mk, Gr.d_mk, Array.append_assoc]⟩))) | quiet_step ((first | (rename_i xg; go_at_call 14; refine (Hc.out _).mono ?_; rintro _ _ ⟨rfl, h0, d0, rfl⟩; exact ⟨rfl, Gr.mk (xg.h ++ h0) d0, by simp only [ext_ext, Gr.h_mk, Gr.d_mk, Array.append_assoc]⟩))))
            refine wpQuiet_nil ?_
            rintro _ ⟨g78, rfl⟩
            go_wp2_with fail
            refine abs_world (F := fun W => FldAt W B1 r2 c2 t2 b2 o2 ∧ FldAt W B2 r2 c2 t2 b2 o2 ∧ TwoAt W B3 k0 k1 ∧ CurAt W B4 0 0 false ∧ Grows wu W) ⟨f1z.grows (by repeat' (first | (with_reducible exact Grows.refl _) | (with_reducible refine Grows.alloc ?_ _) | (with_reducible refine Grows.drew ?_) | (with_reducible refine Grows.ext ?_ _ _))), f2z.grows (by repeat' (first | (with_reducible exact Grows.refl _) | (with_reducible refine Grows.alloc ?_ _) | (with_reducible refine Grows.drew ?_) | (with_reducible refine Grows.ext ?_ _ _))), f3z.grows (by repeat' (first | (with_reducible exact Grows.refl _) | (with_reducible refine Grows.alloc ?_ _) | (with_reducible refine Grows.drew ?_) | (with_reducible refine Grows.ext ?_ _ _))), f4z.grows (by repeat' (first | (with_reducible exact Grows.refl _) | (with_reducible refine Grows.alloc ?_ _) | (with_reducible refine Grows.drew ?_) | (with_reducible refine Grows.ext ?_ _ _))), hGz.trans (by repeat' (first | (with_reducible exact Grows.refl _) | (with_reducible refine Grows.alloc ?_ _) | (with_reducible refine Grows.drew ?_) | (with_reducible refine Grows.ext ?_ _ _)))⟩ ?_
            rintro wq2 ⟨f1q, f2q, f3q, f4q, hGq2⟩
            clear a0 a1 a2 a3 a4 a5 a6 a7 a8 q0 q1 q2 q3 q4 q5 q6 f1z f2z f3z f4z hGz
            go_loopw [106] (fun i wr' => ∃ (wt : World) (p : Nat), wt = wr' ∧ p ≤ 2 ∧ i = .int .i64 p ∧ FldAt wt B1 r2 c2 t2 b2 o2 ∧ FldAt wt B2 r2 c2 t2 b2 o2 ∧ TwoAt wt B3 k0 k1 ∧ CurAt wt B4 0 0 false ∧ Grows wu wt) (fun i _ => 2 - (intOf i).toNat)
            case atStart => exact ⟨_, 0, rfl, by omega, rfl, f1q, f2q, f3q, f4q, hGq2⟩
            case round =>
              obtain ⟨wt, p, rfl, hp, rfl, f1, f2, f3, f4, hG3⟩ := hrel
              by_cases hpn : p = 2
              · subst hpn
                go_wp2
                go_roundw
                case rel => exact ⟨_, m + 1, rfl, by omega, by go_num, f1, f2, Grows.trans hG2 hG3⟩
                case measure => simp [intOf]; omega
              · obtain ⟨x2, y2, g2, hix3⟩ := index34 x y x1 y1 wr g1 p (by omega)
                have hplt : decide ((p : Int) < 2) = true := by simp; omega
                have f1' := f1
                have f2' := f2
                have f3' := f3
                have f4' := f4
                obtain ⟨z0, z1, z2, z3, z4, z5⟩ := f1'
                obtain ⟨y0, y1', y2', y3, y4, y5⟩ := f2'
                obtain ⟨a0, a1, a2⟩ := f3'
                obtain ⟨q0, q1, q2, q3, q4, q5, q6⟩ := f4'
                go_wp2_with (go_at_call 15; (with_reducible refine (rcheckAt_any _ _ _ _ _ _ _ _ _).mono ?_); rintro e w' ⟨rfl, h7, d7, rfl⟩)
                go_wp2_with (first | (go_at_call 31; (with_reducible refine (rowTo_any _ _ _ _ _ _ _ _ _ _).mono ?_); rintro e w' ⟨rfl, h8, d8, rfl⟩) | (go_at_call 32; (with_reducible refine (colTo_any _ _ _ _ _ _ _ _ _ _).mono ?_); rintro e w' ⟨rfl, h9, d9, rfl⟩))
                go_roundw
                case rel => exact ⟨_, p + 1, rfl, by omega, by go_num, f1.grows (by repeat' (first | (with_reducible exact Grows.refl _) | (with_reducible refine Grows.alloc ?_ _) | (with_reducible refine Grows.drew ?_) | (with_reducible refine Grows.ext ?_ _ _))), f2.grows (by repeat' (first | (with_reducible exact Grows.refl _) | (with_reducible refine Grows.alloc ?_ _) | (with_reducible refine Grows.drew ?_) | (with_reducible refine Grows.ext ?_ _ _))), f3.grows (by repeat' (first | (with_reducible exact Grows.refl _) | (with_reducible refine Grows.alloc ?_ _) | (with_reducible refine Grows.drew ?_) | (with_reducible refine Grows.ext ?_ _ _))), f4.grows (by repeat' (first | (with_reducible exact Grows.refl _) | (with_reducible refine Grows.alloc ?_ _) | (with_reducible refine Grows.drew ?_) | (with_reducible refine Grows.ext ?_ _ _))), (by repeat' (first | (with_reducible exact hG3) | (with_reducible exact Grows.refl _) | (with_reducible refine Grows.alloc ?_ _) | (with_reducible refine Grows.drew ?_) | (with_reducible refine Grows.ext ?_ _ _)))⟩
                case measure => simp [intOf]; omega
      · skip
        go_wp2_with (first | (go_at_call 28; (with_reducible refine (right_any _ _ _ _ _ _).mono ?_); rintro e w' ⟨rfl, h2, d2, rfl⟩) | (go_at_call 29; (with_reducible refine (rhome_ok _ _ _ _ _ hok _).mono ?_); rintro e w' ⟨rfl, h3, d3, rfl⟩) | (go_at_call 26; (with_reducible refine (home_any _ _ _ _ _ hok _).mono ?_); rintro e w' ⟨rfl, h5, d5, rfl⟩))
        refine abs_world (F := fun W => FldAt W wv.heap.size r2 c2 t2 b2 o2 ∧ FldAt W (wv.heap.size + 1 + h1.size) r2 c2 t2 b2 o2 ∧ Grows wv W) ⟨⟨by simp [go_sem], by simp [go_sem], by simp [go_sem], by simp [go_sem], by simp [go_sem], by simp [go_sem]⟩, ⟨by simp [go_sem], by simp [go_sem], by simp [go_sem], by simp [go_sem], by simp [go_sem], by simp [go_sem]⟩, (by repeat' (first | (with_reducible exact Grows.refl _) | (with_reducible refine Grows.alloc ?_ _) | (with_reducible refine Grows.drew ?_) | (with_reducible refine Grows.ext ?_ _ _)))⟩ ?_
        rintro wq ⟨f1o, f2o, hGq⟩
        generalize wv.heap.size + 1 + h1.size = B2 at *
        generalize wv.heap.size = B1 at *
        go_loopw [74] (fun i wr' => ∃ (wu : World) (m : Nat), wu = wr' ∧ m ≤ 2 ∧ i = .int .i64 m ∧ FldAt wu B1 r2 c2 t2 b2 o2 ∧ FldAt wu B2 r2 c2 t2 b2 o2 ∧ Grows wv wu) (fun i _ => 2 - (intOf i).toNat)
        case atStart => exact ⟨_, 0, rfl, by omega, rfl, f1o, f2o, hGq⟩
        case round =>
          obtain ⟨wu, m, rfl, hm, rfl, f1, f2, hG2⟩ := hrel
          by_cases hmn : m = 2
          · subst hmn
            go_wp2
            go_roundw
            case rel => exact ⟨_, k + 1, rfl, by omega, by go_num, hD0.grows hG2, hC0.grows hG2, hn70.grows hG2, hn90.grows hG2, Grows.trans hG hG2⟩
            case measure => simp [intOf]; omega
          · obtain ⟨k0, k1, hix2⟩ := index61 n0 n1 (wrap64 (wrap64 ((IntKind.u64.wrap n0).tmod 45) - 2)) (wrap64 (wrap64 ((IntKind.u64.wrap n1).tmod 85) - 2)) m (by omega)
            have hmlt : decide ((m : Int) < 2) = true := by simp; omega
            obtain ⟨a0, a1, a2, a3, a4, a5, a6, a7, a8⟩ := hD0.grows hG2
            obtain ⟨q0, q1, q2, q3, q4, q5, q6⟩ := hC0.grows hG2
            have f1' := f1
            have f2' := f2
            obtain ⟨z0, z1, z2, z3, z4, z5⟩ := f1'
            obtain ⟨y0, y1', y2, y3, y4, y5⟩ := f2'
            go_wp2_with (first | (go_at_call 30; (with_reducible refine (rgoto_any _ _ _ _ _ _ _ hok _).mono ?_); rintro e w' ⟨rfl, h5, d5, rfl⟩) | (go_at_call 25; (with_reducible refine (goto_yes _ _ _ _ _ _ _ hok _).mono ?_); rintro e w' ⟨rfl, h6, d6, rfl⟩))
            clear hix2
            refine abs_world (F := fun W => DrAt W N5 rows cols top long row col od wd ∧ CurAt W N6 x y wr ∧ FldAt W B1 r2 c2 t2 b2 o2 ∧ FldAt W B2 r2 c2 t2 b2 o2 ∧ TwoAt W wu.heap.size k0 k1 ∧ CurAt W (wu.heap.size + 1) (gRow r2 t2 b2 k0 o2) (gCol c2 k1) false ∧ Grows wu W) ⟨DrAt.grows (hD0.grows hG2) (by repeat' (first | (with_reducible exact Grows.refl _) | (with_reducible refine Grows.alloc ?_ _) | (with_reducible refine Grows.drew ?_) | (with_reducible refine Grows.ext ?_ _ _))), CurAt.grows (hC0.grows hG2) (by repeat' (first | (with_reducible exact Grows.refl _) | (with_reducible refine Grows.alloc ?_ _) | (with_reducible refine Grows.drew ?_) | (with_reducible refine Grows.ext ?_ _ _))), f1.grows (by repeat' (first | (with_reducible exact Grows.refl _) | (with_reducible refine Grows.alloc ?_ _) | (with_reducible refine Grows.drew ?_) | (with_reducible refine Grows.ext ?_ _ _))), f2.grows (by repeat' (first | (with_reducible exact Grows.refl _) | (with_reducible refine Grows.alloc ?_ _) | (with_reducible refine Grows.drew ?_) | (with_reducible refine Grows.ext ?_ _ _))), ⟨by simp [go_sem], by simp [go_sem], by simp [go_sem]⟩, ⟨by simp [go_sem], by simp [go_sem], by simp [go_sem], by simp [go_sem], by simp [go_sem], by simp [go_sem], by simp [go_sem]⟩, (by repeat' (first | (with_reducible exact Grows.refl _) | (with_reducible refine Grows.alloc ?_ _) | (with_reducible refine Grows.drew ?_) | (with_reducible refine Grows.ext ?_ _ _)))⟩ ?_
            clear a0 a1 a2 a3 a4 a5 a6 a7 a8 q0 q1 q2 q3 q4 q5 q6 z0 z1 z2 z3 z4 z5 y0 y1' y2 y3 y4 y5 f1 f2
            rintro wz ⟨⟨a0, a1, a2, a3, a4, a5, a6, a7, a8⟩, ⟨q0, q1, q2, q3, q4, q5, q6⟩, f1z, f2z, f3z, f4z, hGz⟩
            generalize wu.heap.size + 1 = B4 at *
            generalize wu.heap.size = B3 at *
            refine wp_region_grow (by kernel_rfl) (by kernel_rfl) ?_
            repeat (first | go_big_quiet_step ((first | (rename_i xg; go_at_call 14; refine (Hc.out _).mono ?_; rintro _ _ ⟨rfl, h0, d0, rfl⟩; exact ⟨rfl, Gr.mk (xg.h ++ h0) d0, by simp only [ext_ext, Gr.h_mk, Gr.d_mk, Array.append_assoc]⟩))) | quiet_step ((first | (rename_i xg; go_at_call 14; refine (Hc.out _).mono ?_; rintro _ _ ⟨rfl, h0, d0, rfl⟩; exact ⟨rfl, Gr.mk (xg.h ++ h0) d0, by simp only [ext_ext, Gr.h_mk, Gr.d_mk, Array.append_assoc]⟩))))
            refine wpQuiet_nil ?_
            rintro _ ⟨g79, rfl⟩
            go_wp2_with fail
            refine abs_world (F := fun W => FldAt W B1 r2 c2 t2 b2 o2 ∧ FldAt W B2 r2 c2 t2 b2 o2 ∧ TwoAt W B3 k0 k1 ∧ CurAt W B4 (gRow r2 t2 b2 k0 o2) (gCol c2 k1) false ∧ Grows wu W) ⟨f1z.grows (by repeat' (first | (with_reducible exact Grows.refl _) | (with_reducible refine Grows.alloc ?_ _) | (with_reducible refine Grows.drew ?_) | (with_reducible refine Grows.ext ?_ _ _))), f2z.grows (by repeat' (first | (with_reducible exact Grows.refl _) | (with_reducible refine Grows.alloc ?_ _) | (with_reducible refine Grows.drew ?_) | (with_reducible refine Grows.ext ?_ _ _))), f3z.grows (by repeat' (first | (with_reducible exact Grows.refl _) | (with_reducible refine Grows.alloc ?_ _) | (with_reducible refine Grows.drew ?_) | (with_reducible refine Grows.ext ?_ _ _))), f4z.grows (by repeat' (first | (with_reducible exact Grows.refl _) | (with_reducible refine Grows.alloc ?_ _) | (with_reducible refine Grows.drew ?_) | (with_reducible refine Grows.ext ?_ _ _))), hGz.trans (by repeat' (first | (with_reducible exact Grows.refl _) | (with_reducible refine Grows.alloc ?_ _) | (with_reducible refine Grows.drew ?_) | (with_reducible refine Grows.ext ?_ _ _)))⟩ ?_
            rintro wq2 ⟨f1q, f2q, f3q, f4q, hGq2⟩
            clear a0 a1 a2 a3 a4 a5 a6 a7 a8 q0 q1 q2 q3 q4 q5 q6 f1z f2z f3z f4z hGz
            go_loopw [106] (fun i wr' => ∃ (wt : World) (p : Nat), wt = wr' ∧ p ≤ 2 ∧ i = .int .i64 p ∧ FldAt wt B1 r2 c2 t2 b2 o2 ∧ FldAt wt B2 r2 c2 t2 b2 o2 ∧ TwoAt wt B3 k0 k1 ∧ CurAt wt B4 (gRow r2 t2 b2 k0 o2) (gCol c2 k1) false ∧ Grows wu wt) (fun i _ => 2 - (intOf i).toNat)
            case atStart => exact ⟨_, 0, rfl, by omega, rfl, f1q, f2q, f3q, f4q, hGq2⟩
            case round =>
              obtain ⟨wt, p, rfl, hp, rfl, f1, f2, f3, f4, hG3⟩ := hrel
              by_cases hpn : p = 2
              · subst hpn
                go_wp2
                go_roundw
                case rel => exact ⟨_, m + 1, rfl, by omega, by go_num, f1, f2, Grows.trans hG2 hG3⟩
                case measure => simp [intOf]; omega
              · obtain ⟨x2, y2, g2, hix3⟩ := index34 x y x1 y1 wr g1 p (by omega)
                have hplt : decide ((p : Int) < 2) = true := by simp; omega
                have f1' := f1
                have f2' := f2
                have f3' := f3
                have f4' := f4
                obtain ⟨z0, z1, z2, z3, z4, z5⟩ := f1'
                obtain ⟨y0, y1', y2', y3, y4, y5⟩ := f2'
                obtain ⟨a0, a1, a2⟩ := f3'
                obtain ⟨q0, q1, q2, q3, q4, q5, q6⟩ := f4'
                cases hat : atB r2 c2 x2 y2 g2
                · go_wp2_with (go_at_call 15; (with_reducible refine (rcheckAt_any _ _ _ _ _ _ _ _ _).mono ?_); rintro e w' ⟨rfl, h7, d7, rfl⟩)
                  go_wp2_with (first | (go_at_call 31; (with_reducible refine (rowTo_any _ _ _ _ _ _ _ _ _ _).mono ?_); rintro e w' ⟨rfl, h8, d8, rfl⟩) | (go_at_call 32; (with_reducible refine (colTo_any _ _ _ _ _ _ _ _ _ _).mono ?_); rintro e w' ⟨rfl, h9, d9, rfl⟩))
                  go_roundw
                  case rel => exact ⟨_, p + 1, rfl, by omega, by go_num, f1.grows (by repeat' (first | (with_reducible exact Grows.refl _) | (with_reducible refine Grows.alloc ?_ _) | (with_reducible refine Grows.drew ?_) | (with_reducible refine Grows.ext ?_ _ _))), f2.grows (by repeat' (first | (with_reducible exact Grows.refl _) | (with_reducible refine Grows.alloc ?_ _) | (with_reducible refine Grows.drew ?_) | (with_reducible refine Grows.ext ?_ _ _))), f3.grows (by repeat' (first | (with_reducible exact Grows.refl _) | (with_reducible refine Grows.alloc ?_ _) | (with_reducible refine Grows.drew ?_) | (with_reducible refine Grows.ext ?_ _ _))), f4.grows (by repeat' (first | (with_reducible exact Grows.refl _) | (with_reducible refine Grows.alloc ?_ _) | (with_reducible refine Grows.drew ?_) | (with_reducible refine Grows.ext ?_ _ _))), (by repeat' (first | (with_reducible exact hG3) | (with_reducible exact Grows.refl _) | (with_reducible refine Grows.alloc ?_ _) | (with_reducible refine Grows.drew ?_) | (with_reducible refine Grows.ext ?_ _ _)))⟩
                  case measure => simp [intOf]; omega
                · go_wp2_with (go_at_call 15; (with_reducible refine (rcheckAt_any _ _ _ _ _ _ _ _ _).mono ?_); rintro e w' ⟨rfl, h7, d7, rfl⟩)
                  refine wp_region_held_low (by kernel_rfl) (fun hHeld => ?_)
                  refine wpAnyH_take (i := 0) (v := ?v153_0) rfl (by kernel_rfl) (by kernel_rfl) (by kernel_rfl) (fun _ _ _ h => h) (Or.inl ⟨by kernel_rfl, ?y153_0⟩) (by assumption) ?r153_0
                  case y153_0 => (intro wS hSw; (try dsimp only at hSw); go_simp; (try (rw [hSw _ _ (by simp [go_sem]; omega)]; go_simp)); (try with_reducible rfl))
                  try simp only [Act.put, List.getElem_toArray, List.getElem_cons_succ, List.getElem_cons_zero, List.setIfInBounds_toArray, List.set_cons_zero, List.set_cons_succ]
                  refine wpAnyH_take (i := 1) (v := ?v154_1) rfl (by kernel_rfl) (by kernel_rfl) (by kernel_rfl) (fun _ _ _ h => h) (Or.inl ⟨by kernel_rfl, ?y154_1⟩) (by assumption) ?r154_1
                  case y154_1 => (intro wS hSw; (try dsimp only at hSw); go_simp; (try (rw [hSw _ _ (by simp [go_sem]; omega)]; go_simp)); (try with_reducible rfl))
                  try simp only [Act.put, List.getElem_toArray, List.getElem_cons_succ, List.getElem_cons_zero, List.setIfInBounds_toArray, List.set_cons_zero, List.set_cons_succ]
                  refine wpAnyH_take (i := 2) (v := ?v155_2) rfl (by kernel_rfl) (by kernel_rfl) (by kernel_rfl) (fun _ _ _ h => h) (Or.inl ⟨by kernel_rfl, ?y155_2⟩) (by assumption) ?r155_2
                  case y155_2 => (intro wS hSw; (try dsimp only at hSw); go_simp; (try (rw [hSw _ _ (by simp [go_sem]; omega)]; go_simp)); (try with_reducible rfl))
                  try simp only [Act.put, List.getElem_toArray, List.getElem_cons_succ, List.getElem_cons_zero, List.setIfInBounds_toArray, List.set_cons_zero, List.set_cons_succ]
                  refine wpAnyH_take (i := 3) (v := ?v156_3) rfl (by kernel_rfl) (by kernel_rfl) (by kernel_rfl) (fun _ _ _ h => h) (Or.inl ⟨by kernel_rfl, ?y156_3⟩) (by assumption) ?r156_3
                  case y156_3 => (intro wS hSw; (try dsimp only at hSw); go_simp; (try (rw [hSw _ _ (by simp [go_sem]; omega)]; go_simp)); (try with_reducible rfl))
                  try simp only [Act.put, List.getElem_toArray, List.getElem_cons_succ, List.getElem_cons_zero, List.setIfInBounds_toArray, List.set_cons_zero, List.set_cons_succ]
                  refine wpAnyH_take (i := 4) (v := ?v157_4) rfl (by kernel_rfl) (by kernel_rfl) (by kernel_rfl) (fun _ _ _ h => h) (Or.inl ⟨by kernel_rfl, ?y157_4⟩) (by assumption) ?r157_4
                  case y157_4 => (intro wS hSw; (try dsimp only at hSw); go_simp; (try (rw [hSw _ _ (by simp [go_sem]; omega)]; go_simp)); (try with_reducible rfl))
                  try simp only [Act.put, List.getElem_toArray, List.getElem_cons_succ, List.getElem_cons_zero, List.setIfInBounds_toArray, List.set_cons_zero, List.set_cons_succ]
                  refine wpAnyH_take (i := 5) (v := ?v158_5) rfl (by kernel_rfl) (by kernel_rfl) (by kernel_rfl) (fun _ _ _ h => h) (Or.inl ⟨by kernel_rfl, ?y158_5⟩) (by assumption) ?r158_5
                  case y158_5 => (intro wS hSw; (try dsimp only at hSw); go_simp; (try (rw [hSw _ _ (by simp [go_sem]; omega)]; go_simp)); (try with_reducible rfl))
                  try simp only [Act.put, List.getElem_toArray, List.getElem_cons_succ, List.getElem_cons_zero, List.setIfInBounds_toArray, List.set_cons_zero, List.set_cons_succ]
                  refine wpAnyH_take (i := 6) (v := ?v159_6) rfl (by kernel_rfl) (by kernel_rfl) (by kernel_rfl) (fun _ _ _ h => h) (Or.inl ⟨by kernel_rfl, ?y159_6⟩) (by assumption) ?r159_6
                  case y159_6 => (intro wS hSw; (try dsimp only at hSw); go_simp; (try (rw [hSw _ _ (by simp [go_sem]; omega)]; go_simp)); (try with_reducible rfl))
                  try simp only [Act.put, List.getElem_toArray, List.getElem_cons_succ, List.getElem_cons_zero, List.setIfInBounds_toArray, List.set_cons_zero, List.set_cons_succ]
                  refine wpAnyH_take (i := 7) (v := ?v160_7) rfl (by kernel_rfl) (by kernel_rfl) (by kernel_rfl) (fun _ _ _ h => h) (Or.inl ⟨by kernel_rfl, ?y160_7⟩) (by assumption) ?r160_7
                  case y160_7 => (intro wS hSw; (try dsimp only at hSw); go_simp; (try (rw [hSw _ _ (by simp [go_sem]; omega)]; go_simp)); (try with_reducible rfl))
                  try simp only [Act.put, List.getElem_toArray, List.getElem_cons_succ, List.getElem_cons_zero, List.setIfInBounds_toArray, List.set_cons_zero, List.set_cons_succ]
                  refine wpAnyH_take (i := 8) (v := ?v161_8) rfl (by kernel_rfl) (by kernel_rfl) (by kernel_rfl) (fun _ _ _ h => h) (Or.inl ⟨by kernel_rfl, ?y161_8⟩) (by assumption) ?r161_8
                  case y161_8 => (intro wS hSw; (try dsimp only at hSw); go_simp; (try (rw [hSw _ _ (by simp [go_sem]; omega)]; go_simp)); (try with_reducible rfl))
                  try simp only [Act.put, List.getElem_toArray, List.getElem_cons_succ, List.getElem_cons_zero, List.setIfInBounds_toArray, List.set_cons_zero, List.set_cons_succ]
                  refine wpAnyH_take (i := 9) (v := ?v162_9) rfl (by kernel_rfl) (by kernel_rfl) (by kernel_rfl) (fun _ _ _ h => h) (Or.inl ⟨by kernel_rfl, ?y162_9⟩) (by assumption) ?r162_9
                  case y162_9 => (intro wS hSw; (try dsimp only at hSw); go_simp; (try (rw [hSw _ _ (by simp [go_sem]; omega)]; go_simp)); (try with_reducible rfl))
                  try simp only [Act.put, List.getElem_toArray, List.getElem_cons_succ, List.getElem_cons_zero, List.setIfInBounds_toArray, List.set_cons_zero, List.set_cons_succ]
                  refine wpAnyH_ready (rs := [10]) (by kernel_rfl) (by simp) ?_
                  refine AllReadyH.cons rfl (fun K hK => ?_) AllReadyH.nil
                  simp only [List.getElem_toArray, List.getElem_cons_succ, List.getElem_cons_zero]
                  go_simp
                  skip
                  refine hK.out _ _ ?_ ?_
                  · intro nn ii hnn; have hlt0 : nn < (ext (wt.alloc (.cells #[.int .i64 x2, .int .i64 y2, .bool g2] 27)) h7 d7).heap.size := (by simp only [ext_size, World.size_alloc, World.size_drew] at hnn ⊢; omega); exact (Grows.cell (by repeat' (first | (with_reducible exact Grows.refl _) | (with_reducible refine Grows.alloc ?_ _) | (with_reducible refine Grows.drew ?_) | (with_reducible refine Grows.ext ?_ _ _))) nn ii hlt0).1.trans (Grows.cell (by repeat' (first | (with_reducible exact Grows.refl _) | (with_reducible refine Grows.alloc ?_ _) | (with_reducible refine Grows.drew ?_) | (with_reducible refine Grows.ext ?_ _ _))) nn ii hlt0).1.symm
                  clear hK K hHeld
                  intro hHeld
                  try simp only [Act.put, List.getElem_toArray, List.getElem_cons_succ, List.getElem_cons_zero, List.setIfInBounds_toArray, List.set_cons_zero, List.set_cons_succ]
                  refine wpAnyH_ready (rs := [11]) (by kernel_rfl) (by simp) ?_
                  refine AllReadyH.cons rfl (fun K hK => ?_) AllReadyH.nil
                  simp only [List.getElem_toArray, List.getElem_cons_succ, List.getElem_cons_zero]
                  go_simp
                  skip
                  refine hK.out _ _ ?_ ?_
                  · intro nn ii hnn; have hlt0 : nn < (ext (wt.alloc (.cells #[.int .i64 x2, .int .i64 y2, .bool g2] 27)) h7 d7).heap.size := (by simp only [ext_size, World.size_alloc, World.size_drew] at hnn ⊢; omega); exact (Grows.cell (by repeat' (first | (with_reducible exact Grows.refl _) | (with_reducible refine Grows.alloc ?_ _) | (with_reducible refine Grows.drew ?_) | (with_reducible refine Grows.ext ?_ _ _))) nn ii hlt0).1.trans (Grows.cell (by repeat' (first | (with_reducible exact Grows.refl _) | (with_reducible refine Grows.alloc ?_ _) | (with_reducible refine Grows.drew ?_) | (with_reducible refine Grows.ext ?_ _ _))) nn ii hlt0).1.symm
                  clear hK K hHeld
                  intro hHeld
                  try simp only [Act.put, List.getElem_toArray, List.getElem_cons_succ, List.getElem_cons_zero, List.setIfInBounds_toArray, List.set_cons_zero, List.set_cons_succ]
                  refine wpAnyH_done (by kernel_rfl) ?_ _
                  clear hHeld
                  go_wp2_with (first | (go_at_call 31; (with_reducible refine (rowTo_any _ _ _ _ _ _ _ _ _ _).mono ?_); rintro e w' ⟨rfl, h8, d8, rfl⟩) | (go_at_call 32; (with_reducible refine (colTo_any _ _ _ _ _ _ _ _ _ _).mono ?_); rintro e w' ⟨rfl, h9, d9, rfl⟩))
                  go_roundw
                  case rel => exact ⟨_, p + 1, rfl, by omega, by go_num, f1.grows (by repeat' (first | (with_reducible exact Grows.refl _) | (with_reducible refine Grows.alloc ?_ _) | (with_reducible refine Grows.drew ?_) | (with_reducible refine Grows.ext ?_ _ _))), f2.grows (by repeat' (first | (with_reducible exact Grows.refl _) | (with_reducible refine Grows.alloc ?_ _) | (with_reducible refine Grows.drew ?_) | (with_reducible refine Grows.ext ?_ _ _))), f3.grows (by repeat' (first | (with_reducible exact Grows.refl _) | (with_reducible refine Grows.alloc ?_ _) | (with_reducible refine Grows.drew ?_) | (with_reducible refine Grows.ext ?_ _ _))), f4.grows (by repeat' (first | (with_reducible exact Grows.refl _) | (with_reducible refine Grows.alloc ?_ _) | (with_reducible refine Grows.drew ?_) | (with_reducible refine Grows.ext ?_ _ _))), (by repeat' (first | (with_reducible exact hG3) | (with_reducible exact Grows.refl _) | (with_reducible refine Grows.alloc ?_ _) | (with_reducible refine Grows.drew ?_) | (with_reducible refine Grows.ext ?_ _ _)))⟩
                  case measure => simp [intOf]; omega
end Go.Proofs.Ytepbknpdhiaepaa
