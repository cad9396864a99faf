/-
  Walk: the law CursorMoves.
-/
import Derived.Test.YtepbknpdhiaepaaRows
import Derived.Test.YtepbknpdhiaepaaLt
import Derived.Test.YtepbknpdhiaepaaDefs
import Derived.Test.YtepbknpdhiaepaaW1
import Derived.Test.YtepbknpdhiaepaaW2
import Derived.Test.YtepbknpdhiaepaaW4
import Derived.Test.YtepbknpdhiaepaaW8
import Derived.Test.YtepbknpdhiaepaaW11
import Derived.Test.YtepbknpdhiaepaaW12
import Derived.Test.YtepbknpdhiaepaaW13
import Derived.Test.YtepbknpdhiaepaaW15
import Derived.Test.YtepbknpdhiaepaaW16
import Derived.Test.YtepbknpdhiaepaaW18
import Derived.Test.YtepbknpdhiaepaaIX
import Derived.WalkKit
import Derived.WalkSpells
import Derived.WalkLawsBesides
import Derived.Handy
import Derived.Lib.Hide
import Derived.Deep.Light
import Derived.Deep.LoopGhost
import Derived.BigGuardPart
import Derived.BigQuiet
import Derived.Deep.QuietTactic
import Derived.Deep.RegionHeld3
import Derived.Test.YtepbknpdhiaepaaReg
import Derived.Test.YtepbknpdhiaepaaReg3
namespace Go.Proofs.Ytepbknpdhiaepaa
open Go.RowKit


set_option maxRecDepth 100000 in
set_option maxHeartbeats 400000000 in
theorem lawMoves_true (r c t b : Int) (o : Bool) (rows cols top long row col : Int) (od wd : Bool) (h1 : 0 ≤ rows ∧ rows < 256) (h2 : 0 ≤ cols ∧ cols < 256) (h3 : 0 ≤ top ∧ top < 256) (h4 : 0 ≤ long ∧ long < 256) (h5 : 0 ≤ row ∧ row < 256) (h6 : 0 ≤ col ∧ col < 256) (x y : Int) (wr : Bool) (way n : Int) (w : World) : Calls Try.prog 3 #[.agg #[.int .i64 r, .int .i64 c, .int .i64 t, .int .i64 b, .bool o], .agg #[.int .u8 rows, .int .u8 cols, .int .u8 top, .int .u8 long, .int .u8 row, .int .u8 col, .bool od, .bool wd], .agg #[.int .i64 x, .int .i64 y, .bool wr], .int .i64 way, .int .i64 n] w (Ret (.bool true) w) := by
  have hf := fun W => dfield_any rows cols top long row col od wd h1 h2 h3 h4 h5 h6 W
  have hcu := fun W => dcursor_any rows cols top long row col od wd h1 h2 h3 h4 h5 h6 W
  generalize dR rows = r1 at *
  generalize dC cols = c1 at *
  generalize dT rows top long = t1 at *
  generalize dB rows top long = b1 at *
  generalize dRow rows top long row = x1 at *
  generalize dCol cols col = y1 at *
  generalize dWr cols col wd = g1 at *
  have Hf := Lib.hid hf
  have Hc := Lib.hid hcu
  clear hf hcu h1 h2 h3 h4 h5 h6
  go_enter Try.func3, Try.ntmps3
  go_wp2_with fail
  refine wp_region_grow (by kernel_rfl) (by kernel_rfl) ?_
  repeat (first | go_big_quiet_step ((first | (rename_i xg; go_at_call 12; refine (Hf.out _).mono ?_; rintro _ _ ⟨rfl, h0, d0, rfl⟩; exact ⟨rfl, Gr.mk (xg.h ++ h0) d0, by simp only [ext_ext, Gr.h_mk, Gr.d_mk, Array.append_assoc]⟩) | (rename_i xg; go_at_call 11; refine (own_any _ _ _ _ _ _).mono ?_; rintro _ _ ⟨rfl, h0, d0, rfl⟩; exact ⟨rfl, Gr.mk (xg.h ++ h0) d0, by simp only [ext_ext, Gr.h_mk, Gr.d_mk, Array.append_assoc]⟩))) | quiet_step ((first | (rename_i xg; go_at_call 12; refine (Hf.out _).mono ?_; rintro _ _ ⟨rfl, h0, d0, rfl⟩; exact ⟨rfl, Gr.mk (xg.h ++ h0) d0, by simp only [ext_ext, Gr.h_mk, Gr.d_mk, Array.append_assoc]⟩) | (rename_i xg; go_at_call 11; refine (own_any _ _ _ _ _ _).mono ?_; rintro _ _ ⟨rfl, h0, d0, rfl⟩; exact ⟨rfl, Gr.mk (xg.h ++ h0) d0, by simp only [ext_ext, Gr.h_mk, Gr.d_mk, Array.append_assoc]⟩))))
  refine wpQuiet_nil ?_
  rintro _ ⟨g75, rfl⟩
  go_wp2_with fail
  go_loopw [40] (fun i wr' => ∃ k : Nat, k ≤ 2 ∧ i = .int .i64 k ∧ Grows (((w.alloc (.cells #[.int .i64 r, .int .i64 c, .int .i64 t, .int .i64 b, .bool o] 23)).alloc (.cells #[.int .u8 rows, .int .u8 cols, .int .u8 top, .int .u8 long, .int .u8 row, .int .u8 col, .bool od, .bool wd] 25)).alloc (.cells #[.int .i64 x, .int .i64 y, .bool wr] 27)) wr') (fun i _ => 2 - (intOf i).toNat)
  case atStart => exact ⟨0, by omega, rfl, (by repeat' (first | (with_reducible exact Grows.refl _) | (with_reducible refine Grows.alloc ?_ _) | (with_reducible refine Grows.drew ?_) | (with_reducible refine Grows.ext ?_ _ _)))⟩
  case round =>
    obtain ⟨k, hk, rfl, h0, d0, rfl⟩ := hrel
    by_cases hkn : k = 2
    · subst hkn
      go_wp2_with (go_at_call 22; refine (works_true _).mono ?_; rintro e w' ⟨rfl, h9, d9, rfl⟩)
      go_returns
      exact ⟨rfl, (by repeat' (first | (with_reducible exact Grows.refl _) | (with_reducible refine Grows.alloc ?_ _) | (with_reducible refine Grows.drew ?_) | (with_reducible refine Grows.ext ?_ _ _)))⟩
    · obtain ⟨r2, c2, t2, b2, o2, hix⟩ := index31 r c t b r1 c1 t1 b1 o od k (by omega)
      have hlt : decide ((k : Int) < 2) = true := by simp; omega
      go_wp2_with (go_at_call 13; refine (ref_any _ _ _ _ _ _).mono ?_; rintro e w' ⟨rfl, h1, d1, rfl⟩)
      refine wp_region_grow (by kernel_rfl) (by kernel_rfl) ?_
      repeat (first | go_big_quiet_step ((first | (rename_i xg; go_at_call 14; refine (Hc.out _).mono ?_; rintro _ _ ⟨rfl, h0, d0, rfl⟩; exact ⟨rfl, Gr.mk (xg.h ++ h0) d0, by simp only [ext_ext, Gr.h_mk, Gr.d_mk, Array.append_assoc]⟩))) | quiet_step ((first | (rename_i xg; go_at_call 14; refine (Hc.out _).mono ?_; rintro _ _ ⟨rfl, h0, d0, rfl⟩; exact ⟨rfl, Gr.mk (xg.h ++ h0) d0, by simp only [ext_ext, Gr.h_mk, Gr.d_mk, Array.append_assoc]⟩))))
      refine wpQuiet_nil ?_
      rintro _ ⟨g76, rfl⟩
      clear hix
      go_wp2_with fail
      go_loopw [49] (fun i wr' => ∃ j : Nat, j ≤ 2 ∧ i = .int .i64 j ∧ Grows ((ext ((ext (((w.alloc (.cells #[.int .i64 r, .int .i64 c, .int .i64 t, .int .i64 b, .bool o] 23)).alloc (.cells #[.int .u8 rows, .int .u8 cols, .int .u8 top, .int .u8 long, .int .u8 row, .int .u8 col, .bool od, .bool wd] 25)).alloc (.cells #[.int .i64 x, .int .i64 y, .bool wr] 27)) h0 d0).alloc (.cells #[.int .i64 r2, .int .i64 c2, .int .i64 t2, .int .i64 b2, .bool o2] 23)) h1 d1).alloc (.cells #[.int .i64 r2, .int .i64 c2, .int .i64 t2, .int .i64 b2, .bool o2] 29)) wr') (fun i _ => 2 - (intOf i).toNat)
      case atStart => exact ⟨0, by omega, rfl, (by repeat' (first | (with_reducible exact Grows.refl _) | (with_reducible refine Grows.alloc ?_ _) | (with_reducible refine Grows.drew ?_) | (with_reducible refine Grows.ext ?_ _ _)))⟩
      case round =>
        obtain ⟨j, hj, rfl, h2, d2, rfl⟩ := hrel
        by_cases hjn : j = 2
        · subst hjn
          go_wp2
          go_roundw
          case rel => exact ⟨k + 1, by omega, by go_num, (by repeat' (first | (with_reducible exact Grows.refl _) | (with_reducible refine Grows.alloc ?_ _) | (with_reducible refine Grows.drew ?_) | (with_reducible refine Grows.ext ?_ _ _)))⟩
          case measure => simp [intOf]; omega
        · obtain ⟨x2, y2, g2, hix⟩ := index34 x y x1 y1 wr g1 j (by omega)
          have hjlt : decide ((j : Int) < 2) = true := by simp; omega
          go_wp2_with (go_at_call 15; refine (rcheckAt_any _ _ _ _ _ _ _ _ _).mono ?_; rintro e w' ⟨rfl, h3, d3, rfl⟩)
          clear hix
          cases hok : okF r2 c2 t2 b2
          · rw [cErr_false]
            as_aux_lemma =>
            go_loopw [17] (fun i wr' => ∃ m : Nat, m ≤ 7 ∧ i = .int .i64 ((m : Int) - 1) ∧ Grows ((ext ((ext ((ext (((w.alloc (.cells #[.int .i64 r, .int .i64 c, .int .i64 t, .int .i64 b, .bool o] 23)).alloc (.cells #[.int .u8 rows, .int .u8 cols, .int .u8 top, .int .u8 long, .int .u8 row, .int .u8 col, .bool od, .bool wd] 25)).alloc (.cells #[.int .i64 x, .int .i64 y, .bool wr] 27)) h0 d0).alloc (.cells #[.int .i64 r2, .int .i64 c2, .int .i64 t2, .int .i64 b2, .bool o2] 23)) h1 d1).alloc (.cells #[.int .i64 r2, .int .i64 c2, .int .i64 t2, .int .i64 b2, .bool o2] 29)) h2 d2).alloc (.cells #[.int .i64 x2, .int .i64 y2, .bool g2] 27)) wr') (fun i _ => (6 - intOf i).toNat)
            case atStart => exact ⟨0, by omega, by go_num, (by repeat' (first | (with_reducible exact Grows.refl _) | (with_reducible refine Grows.alloc ?_ _) | (with_reducible refine Grows.drew ?_) | (with_reducible refine Grows.ext ?_ _ _)))⟩
            case round =>
              obtain ⟨m, hm, rfl, h4, d4, rfl⟩ := hrel
              by_cases hmn : m = 7
              · subst hmn
                go_wp2_with (first | (go_at_call 20; refine (index_any _ _ _ _ _ _ _ _ _).mono ?_; rintro e w' ⟨rfl, h10, d10, rfl⟩) | (go_at_call 21; refine (reverse_any _ _ _ _ _ _ _ _ _).mono ?_; rintro e w' ⟨rfl, h11, d11, rfl⟩))
                go_roundw
                case rel => exact ⟨j + 1, by omega, by go_num, (by repeat' (first | (with_reducible exact Grows.refl _) | (with_reducible refine Grows.alloc ?_ _) | (with_reducible refine Grows.drew ?_) | (with_reducible refine Grows.ext ?_ _ _)))⟩
                case measure => simp [intOf]; omega
              · have hmlt : decide ((m : Int) - 1 < 6) = true := by simp; omega
                cases hb : ((m : Int) - 1 == 5)
                · go_wp2
                  go_loopw [69] (fun i wr' => ∃ q : Nat, q ≤ 3 ∧ i = .int .i64 q ∧ Grows ((ext ((ext ((ext (((w.alloc (.cells #[.int .i64 r, .int .i64 c, .int .i64 t, .int .i64 b, .bool o] 23)).alloc (.cells #[.int .u8 rows, .int .u8 cols, .int .u8 top, .int .u8 long, .int .u8 row, .int .u8 col, .bool od, .bool wd] 25)).alloc (.cells #[.int .i64 x, .int .i64 y, .bool wr] 27)) h0 d0).alloc (.cells #[.int .i64 r2, .int .i64 c2, .int .i64 t2, .int .i64 b2, .bool o2] 23)) h1 d1).alloc (.cells #[.int .i64 r2, .int .i64 c2, .int .i64 t2, .int .i64 b2, .bool o2] 29)) h2 d2).alloc (.cells #[.int .i64 x2, .int .i64 y2, .bool g2] 27)) wr') (fun i _ => 3 - (intOf i).toNat)
                  case atStart => exact ⟨0, by omega, rfl, (by repeat' (first | (with_reducible exact Grows.refl _) | (with_reducible refine Grows.alloc ?_ _) | (with_reducible refine Grows.drew ?_) | (with_reducible refine Grows.ext ?_ _ _)))⟩
                  case round =>
                    obtain ⟨q, hq, rfl, h8, d8, rfl⟩ := hrel
                    by_cases hqn : q = 3
                    · subst hqn
                      go_wp2
                      go_roundw
                      case rel => exact ⟨m + 1, by omega, by go_num, (by repeat' (first | (with_reducible exact Grows.refl _) | (with_reducible refine Grows.alloc ?_ _) | (with_reducible refine Grows.drew ?_) | (with_reducible refine Grows.ext ?_ _ _)))⟩
                      case measure => simp [intOf]; omega
                    · obtain ⟨by2, hix3⟩ := index38 n (wrap64 ((IntKind.u64.wrap n).tmod 50)) 1 q (by omega)
                      have hqlt : decide ((q : Int) < 3) = true := by simp; omega
                      go_wp2_with (go_at_call 17; refine (move_any _ _ _ _ _ _ _ _ _ _ _).mono ?_; rintro e w' ⟨rfl, h7, d7, rfl⟩)
                      go_roundw
                      case rel => exact ⟨q + 1, by omega, by go_num, (by repeat' (first | (with_reducible exact Grows.refl _) | (with_reducible refine Grows.alloc ?_ _) | (with_reducible refine Grows.drew ?_) | (with_reducible refine Grows.ext ?_ _ _)))⟩
                      case measure => simp [intOf]; omega
                · go_wp2
                  go_loopw [69] (fun i wr' => ∃ q : Nat, q ≤ 3 ∧ i = .int .i64 q ∧ Grows ((ext ((ext ((ext (((w.alloc (.cells #[.int .i64 r, .int .i64 c, .int .i64 t, .int .i64 b, .bool o] 23)).alloc (.cells #[.int .u8 rows, .int .u8 cols, .int .u8 top, .int .u8 long, .int .u8 row, .int .u8 col, .bool od, .bool wd] 25)).alloc (.cells #[.int .i64 x, .int .i64 y, .bool wr] 27)) h0 d0).alloc (.cells #[.int .i64 r2, .int .i64 c2, .int .i64 t2, .int .i64 b2, .bool o2] 23)) h1 d1).alloc (.cells #[.int .i64 r2, .int .i64 c2, .int .i64 t2, .int .i64 b2, .bool o2] 29)) h2 d2).alloc (.cells #[.int .i64 x2, .int .i64 y2, .bool g2] 27)) wr') (fun i _ => 3 - (intOf i).toNat)
                  case atStart => exact ⟨0, by omega, rfl, (by repeat' (first | (with_reducible exact Grows.refl _) | (with_reducible refine Grows.alloc ?_ _) | (with_reducible refine Grows.drew ?_) | (with_reducible refine Grows.ext ?_ _ _)))⟩
                  case round =>
                    obtain ⟨q, hq, rfl, h8, d8, rfl⟩ := hrel
                    by_cases hqn : q = 3
                    · subst hqn
                      go_wp2
                      go_roundw
                      case rel => exact ⟨m + 1, by omega, by go_num, (by repeat' (first | (with_reducible exact Grows.refl _) | (with_reducible refine Grows.alloc ?_ _) | (with_reducible refine Grows.drew ?_) | (with_reducible refine Grows.ext ?_ _ _)))⟩
                      case measure => simp [intOf]; omega
                    · obtain ⟨by2, hix3⟩ := index38 n (wrap64 ((IntKind.u64.wrap n).tmod 50)) 1 q (by omega)
                      have hqlt : decide ((q : Int) < 3) = true := by simp; omega
                      go_wp2_with (go_at_call 17; refine (move_any _ _ _ _ _ _ _ _ _ _ _).mono ?_; rintro e w' ⟨rfl, h7, d7, rfl⟩)
                      go_roundw
                      case rel => exact ⟨q + 1, by omega, by go_num, (by repeat' (first | (with_reducible exact Grows.refl _) | (with_reducible refine Grows.alloc ?_ _) | (with_reducible refine Grows.drew ?_) | (with_reducible refine Grows.ext ?_ _ _)))⟩
                      case measure => simp [intOf]; omega

          · cases hat : atB r2 c2 x2 y2 g2
            · rw [cErr_at]
              as_aux_lemma =>
              go_loopw [17] (fun i wr' => ∃ m : Nat, m ≤ 7 ∧ i = .int .i64 ((m : Int) - 1) ∧ Grows ((ext ((ext ((ext (((w.alloc (.cells #[.int .i64 r, .int .i64 c, .int .i64 t, .int .i64 b, .bool o] 23)).alloc (.cells #[.int .u8 rows, .int .u8 cols, .int .u8 top, .int .u8 long, .int .u8 row, .int .u8 col, .bool od, .bool wd] 25)).alloc (.cells #[.int .i64 x, .int .i64 y, .bool wr] 27)) h0 d0).alloc (.cells #[.int .i64 r2, .int .i64 c2, .int .i64 t2, .int .i64 b2, .bool o2] 23)) h1 d1).alloc (.cells #[.int .i64 r2, .int .i64 c2, .int .i64 t2, .int .i64 b2, .bool o2] 29)) h2 d2).alloc (.cells #[.int .i64 x2, .int .i64 y2, .bool g2] 27)) wr') (fun i _ => (6 - intOf i).toNat)
              case atStart => exact ⟨0, by omega, by go_num, (by repeat' (first | (with_reducible exact Grows.refl _) | (with_reducible refine Grows.alloc ?_ _) | (with_reducible refine Grows.drew ?_) | (with_reducible refine Grows.ext ?_ _ _)))⟩
              case round =>
                obtain ⟨m, hm, rfl, h4, d4, rfl⟩ := hrel
                by_cases hmn : m = 7
                · subst hmn
                  go_wp2_with (first | (go_at_call 20; refine (index_any _ _ _ _ _ _ _ _ _).mono ?_; rintro e w' ⟨rfl, h10, d10, rfl⟩) | (go_at_call 21; refine (reverse_any _ _ _ _ _ _ _ _ _).mono ?_; rintro e w' ⟨rfl, h11, d11, rfl⟩))
                  go_roundw
                  case rel => exact ⟨j + 1, by omega, by go_num, (by repeat' (first | (with_reducible exact Grows.refl _) | (with_reducible refine Grows.alloc ?_ _) | (with_reducible refine Grows.drew ?_) | (with_reducible refine Grows.ext ?_ _ _)))⟩
                  case measure => simp [intOf]; omega
                · have hmlt : decide ((m : Int) - 1 < 6) = true := by simp; omega
                  cases hb : ((m : Int) - 1 == 5)
                  · go_wp2
                    go_loopw [69] (fun i wr' => ∃ q : Nat, q ≤ 3 ∧ i = .int .i64 q ∧ Grows ((ext ((ext ((ext (((w.alloc (.cells #[.int .i64 r, .int .i64 c, .int .i64 t, .int .i64 b, .bool o] 23)).alloc (.cells #[.int .u8 rows, .int .u8 cols, .int .u8 top, .int .u8 long, .int .u8 row, .int .u8 col, .bool od, .bool wd] 25)).alloc (.cells #[.int .i64 x, .int .i64 y, .bool wr] 27)) h0 d0).alloc (.cells #[.int .i64 r2, .int .i64 c2, .int .i64 t2, .int .i64 b2, .bool o2] 23)) h1 d1).alloc (.cells #[.int .i64 r2, .int .i64 c2, .int .i64 t2, .int .i64 b2, .bool o2] 29)) h2 d2).alloc (.cells #[.int .i64 x2, .int .i64 y2, .bool g2] 27)) wr') (fun i _ => 3 - (intOf i).toNat)
                    case atStart => exact ⟨0, by omega, rfl, (by repeat' (first | (with_reducible exact Grows.refl _) | (with_reducible refine Grows.alloc ?_ _) | (with_reducible refine Grows.drew ?_) | (with_reducible refine Grows.ext ?_ _ _)))⟩
                    case round =>
                      obtain ⟨q, hq, rfl, h8, d8, rfl⟩ := hrel
                      by_cases hqn : q = 3
                      · subst hqn
                        go_wp2
                        go_roundw
                        case rel => exact ⟨m + 1, by omega, by go_num, (by repeat' (first | (with_reducible exact Grows.refl _) | (with_reducible refine Grows.alloc ?_ _) | (with_reducible refine Grows.drew ?_) | (with_reducible refine Grows.ext ?_ _ _)))⟩
                        case measure => simp [intOf]; omega
                      · obtain ⟨by2, hix3⟩ := index38 n (wrap64 ((IntKind.u64.wrap n).tmod 50)) 1 q (by omega)
                        have hqlt : decide ((q : Int) < 3) = true := by simp; omega
                        go_wp2_with (go_at_call 17; refine (move_any _ _ _ _ _ _ _ _ _ _ _).mono ?_; rintro e w' ⟨rfl, h7, d7, rfl⟩)
                        go_roundw
                        case rel => exact ⟨q + 1, by omega, by go_num, (by repeat' (first | (with_reducible exact Grows.refl _) | (with_reducible refine Grows.alloc ?_ _) | (with_reducible refine Grows.drew ?_) | (with_reducible refine Grows.ext ?_ _ _)))⟩
                        case measure => simp [intOf]; omega
                  · go_wp2
                    go_loopw [69] (fun i wr' => ∃ q : Nat, q ≤ 3 ∧ i = .int .i64 q ∧ Grows ((ext ((ext ((ext (((w.alloc (.cells #[.int .i64 r, .int .i64 c, .int .i64 t, .int .i64 b, .bool o] 23)).alloc (.cells #[.int .u8 rows, .int .u8 cols, .int .u8 top, .int .u8 long, .int .u8 row, .int .u8 col, .bool od, .bool wd] 25)).alloc (.cells #[.int .i64 x, .int .i64 y, .bool wr] 27)) h0 d0).alloc (.cells #[.int .i64 r2, .int .i64 c2, .int .i64 t2, .int .i64 b2, .bool o2] 23)) h1 d1).alloc (.cells #[.int .i64 r2, .int .i64 c2, .int .i64 t2, .int .i64 b2, .bool o2] 29)) h2 d2).alloc (.cells #[.int .i64 x2, .int .i64 y2, .bool g2] 27)) wr') (fun i _ => 3 - (intOf i).toNat)
                    case atStart => exact ⟨0, by omega, rfl, (by repeat' (first | (with_reducible exact Grows.refl _) | (with_reducible refine Grows.alloc ?_ _) | (with_reducible refine Grows.drew ?_) | (with_reducible refine Grows.ext ?_ _ _)))⟩
                    case round =>
                      obtain ⟨q, hq, rfl, h8, d8, rfl⟩ := hrel
                      by_cases hqn : q = 3
                      · subst hqn
                        go_wp2
                        go_roundw
                        case rel => exact ⟨m + 1, by omega, by go_num, (by repeat' (first | (with_reducible exact Grows.refl _) | (with_reducible refine Grows.alloc ?_ _) | (with_reducible refine Grows.drew ?_) | (with_reducible refine Grows.ext ?_ _ _)))⟩
                        case measure => simp [intOf]; omega
                      · obtain ⟨by2, hix3⟩ := index38 n (wrap64 ((IntKind.u64.wrap n).tmod 50)) 1 q (by omega)
                        have hqlt : decide ((q : Int) < 3) = true := by simp; omega
                        go_wp2_with (go_at_call 17; refine (move_any _ _ _ _ _ _ _ _ _ _ _).mono ?_; rintro e w' ⟨rfl, h7, d7, rfl⟩)
                        go_roundw
                        case rel => exact ⟨q + 1, by omega, by go_num, (by repeat' (first | (with_reducible exact Grows.refl _) | (with_reducible refine Grows.alloc ?_ _) | (with_reducible refine Grows.drew ?_) | (with_reducible refine Grows.ext ?_ _ _)))⟩
                        case measure => simp [intOf]; omega

            · rw [cErr_true]
              as_aux_lemma =>
              go_loopw [17] (fun i wr' => ∃ m : Nat, m ≤ 7 ∧ i = .int .i64 ((m : Int) - 1) ∧ Grows ((ext ((ext ((ext (((w.alloc (.cells #[.int .i64 r, .int .i64 c, .int .i64 t, .int .i64 b, .bool o] 23)).alloc (.cells #[.int .u8 rows, .int .u8 cols, .int .u8 top, .int .u8 long, .int .u8 row, .int .u8 col, .bool od, .bool wd] 25)).alloc (.cells #[.int .i64 x, .int .i64 y, .bool wr] 27)) h0 d0).alloc (.cells #[.int .i64 r2, .int .i64 c2, .int .i64 t2, .int .i64 b2, .bool o2] 23)) h1 d1).alloc (.cells #[.int .i64 r2, .int .i64 c2, .int .i64 t2, .int .i64 b2, .bool o2] 29)) h2 d2).alloc (.cells #[.int .i64 x2, .int .i64 y2, .bool g2] 27)) wr') (fun i _ => (6 - intOf i).toNat)
              case atStart => exact ⟨0, by omega, by go_num, (by repeat' (first | (with_reducible exact Grows.refl _) | (with_reducible refine Grows.alloc ?_ _) | (with_reducible refine Grows.drew ?_) | (with_reducible refine Grows.ext ?_ _ _)))⟩
              case round =>
                obtain ⟨m, hm, rfl, h4, d4, rfl⟩ := hrel
                by_cases hmn : m = 7
                · subst hmn
                  go_wp2_with (first | (go_at_call 20; refine (index_any _ _ _ _ _ _ _ _ _).mono ?_; rintro e w' ⟨rfl, h10, d10, rfl⟩) | (go_at_call 21; refine (reverse_any _ _ _ _ _ _ _ _ _).mono ?_; rintro e w' ⟨rfl, h11, d11, rfl⟩) | (go_at_call 18; refine (rindex_any _ _ _ _ _ _ _ _ hok hat _).mono ?_; rintro e w' ⟨rfl, h12, d12, rfl⟩) | (go_at_call 19; refine (rreverse_any _ _ _ _ _ _ _ _ hok hat _).mono ?_; rintro e w' ⟨rfl, h13, d13, rfl⟩))
                  go_roundw
                  case rel => exact ⟨j + 1, by omega, by go_num, (by repeat' (first | (with_reducible exact Grows.refl _) | (with_reducible refine Grows.alloc ?_ _) | (with_reducible refine Grows.drew ?_) | (with_reducible refine Grows.ext ?_ _ _)))⟩
                  case measure => simp [intOf]; omega
                · have hmlt : decide ((m : Int) - 1 < 6) = true := by simp; omega
                  cases hb : ((m : Int) - 1 == 5)
                  · go_wp2
                    go_loopw [69] (fun i wr' => ∃ q : Nat, q ≤ 3 ∧ i = .int .i64 q ∧ Grows ((ext ((ext ((ext (((w.alloc (.cells #[.int .i64 r, .int .i64 c, .int .i64 t, .int .i64 b, .bool o] 23)).alloc (.cells #[.int .u8 rows, .int .u8 cols, .int .u8 top, .int .u8 long, .int .u8 row, .int .u8 col, .bool od, .bool wd] 25)).alloc (.cells #[.int .i64 x, .int .i64 y, .bool wr] 27)) h0 d0).alloc (.cells #[.int .i64 r2, .int .i64 c2, .int .i64 t2, .int .i64 b2, .bool o2] 23)) h1 d1).alloc (.cells #[.int .i64 r2, .int .i64 c2, .int .i64 t2, .int .i64 b2, .bool o2] 29)) h2 d2).alloc (.cells #[.int .i64 x2, .int .i64 y2, .bool g2] 27)) wr') (fun i _ => 3 - (intOf i).toNat)
                    case atStart => exact ⟨0, by omega, rfl, (by repeat' (first | (with_reducible exact Grows.refl _) | (with_reducible refine Grows.alloc ?_ _) | (with_reducible refine Grows.drew ?_) | (with_reducible refine Grows.ext ?_ _ _)))⟩
                    case round =>
                      obtain ⟨q, hq, rfl, h8, d8, rfl⟩ := hrel
                      by_cases hqn : q = 3
                      · subst hqn
                        go_wp2
                        go_roundw
                        case rel => exact ⟨m + 1, by omega, by go_num, (by repeat' (first | (with_reducible exact Grows.refl _) | (with_reducible refine Grows.alloc ?_ _) | (with_reducible refine Grows.drew ?_) | (with_reducible refine Grows.ext ?_ _ _)))⟩
                        case measure => simp [intOf]; omega
                      · obtain ⟨by2, hix3⟩ := index38 n (wrap64 ((IntKind.u64.wrap n).tmod 50)) 1 q (by omega)
                        have hqlt : decide ((q : Int) < 3) = true := by simp; omega
                        by_cases hm : mOk ((m : Int) - 1) by2 = true
                        · obtain ⟨m1, m2, m3⟩ := mOk_iff.1 hm
                          have Hm := Lib.hid hm
                          have e1 : decide (((m : Int) - 1) < 0) = false := by simp; omega
                          have e2 : decide (3 < ((m : Int) - 1)) = false := by simp; omega
                          have e3 : decide (by2 < 0) = false := by simp; omega
                          clear m1 m2 m3
                          go_wp2_with (first | (go_at_call 17; refine (move_any _ _ _ _ _ _ _ _ _ _ _).mono ?_; rintro e w' ⟨rfl, h7, d7, rfl⟩) | (go_at_call 16; refine (rmove_any _ _ _ _ _ _ _ _ _ _ hok hat Hm.out _).mono ?_; rintro e w' ⟨rfl, h6, d6, rfl⟩))
                          go_roundw
                          case rel => exact ⟨q + 1, by omega, by go_num, (by repeat' (first | (with_reducible exact Grows.refl _) | (with_reducible refine Grows.alloc ?_ _) | (with_reducible refine Grows.drew ?_) | (with_reducible refine Grows.ext ?_ _ _)))⟩
                          case measure => simp [intOf]; omega
                        · have hm2 : mOk ((m : Int) - 1) by2 = false := by simpa using hm
                          have hc : ((m : Int) - 1) < 0 ∨ (0 ≤ ((m : Int) - 1) ∧ 3 < ((m : Int) - 1)) ∨ (0 ≤ ((m : Int) - 1) ∧ ((m : Int) - 1) ≤ 3 ∧ by2 < 0) := by
                            rw [mOk_iff] at hm
                            omega
                          clear hm
                          have hc : decide (((m : Int) - 1) < 0) = true ∨ (decide (((m : Int) - 1) < 0) = false ∧ decide (3 < ((m : Int) - 1)) = true) ∨ (decide (((m : Int) - 1) < 0) = false ∧ decide (3 < ((m : Int) - 1)) = false ∧ decide (by2 < 0) = true) := by simp; omega
                          rcases hc with hc | ⟨hc, hc2⟩ | ⟨hc, hc2, hc3⟩
                          all_goals
                            go_wp2_with (go_at_call 17; refine (move_any _ _ _ _ _ _ _ _ _ _ _).mono ?_; rintro e w' ⟨rfl, h7, d7, rfl⟩)
                            go_roundw
                            case rel => exact ⟨q + 1, by omega, by go_num, (by repeat' (first | (with_reducible exact Grows.refl _) | (with_reducible refine Grows.alloc ?_ _) | (with_reducible refine Grows.drew ?_) | (with_reducible refine Grows.ext ?_ _ _)))⟩
                            case measure => simp [intOf]; omega
                  · go_wp2
                    go_loopw [69] (fun i wr' => ∃ q : Nat, q ≤ 3 ∧ i = .int .i64 q ∧ Grows ((ext ((ext ((ext (((w.alloc (.cells #[.int .i64 r, .int .i64 c, .int .i64 t, .int .i64 b, .bool o] 23)).alloc (.cells #[.int .u8 rows, .int .u8 cols, .int .u8 top, .int .u8 long, .int .u8 row, .int .u8 col, .bool od, .bool wd] 25)).alloc (.cells #[.int .i64 x, .int .i64 y, .bool wr] 27)) h0 d0).alloc (.cells #[.int .i64 r2, .int .i64 c2, .int .i64 t2, .int .i64 b2, .bool o2] 23)) h1 d1).alloc (.cells #[.int .i64 r2, .int .i64 c2, .int .i64 t2, .int .i64 b2, .bool o2] 29)) h2 d2).alloc (.cells #[.int .i64 x2, .int .i64 y2, .bool g2] 27)) wr') (fun i _ => 3 - (intOf i).toNat)
                    case atStart => exact ⟨0, by omega, rfl, (by repeat' (first | (with_reducible exact Grows.refl _) | (with_reducible refine Grows.alloc ?_ _) | (with_reducible refine Grows.drew ?_) | (with_reducible refine Grows.ext ?_ _ _)))⟩
                    case round =>
                      obtain ⟨q, hq, rfl, h8, d8, rfl⟩ := hrel
                      by_cases hqn : q = 3
                      · subst hqn
                        go_wp2
                        go_roundw
                        case rel => exact ⟨m + 1, by omega, by go_num, (by repeat' (first | (with_reducible exact Grows.refl _) | (with_reducible refine Grows.alloc ?_ _) | (with_reducible refine Grows.drew ?_) | (with_reducible refine Grows.ext ?_ _ _)))⟩
                        case measure => simp [intOf]; omega
                      · obtain ⟨by2, hix3⟩ := index38 n (wrap64 ((IntKind.u64.wrap n).tmod 50)) 1 q (by omega)
                        have hqlt : decide ((q : Int) < 3) = true := by simp; omega
                        by_cases hm : mOk way by2 = true
                        · obtain ⟨m1, m2, m3⟩ := mOk_iff.1 hm
                          have Hm := Lib.hid hm
                          have e1 : decide (way < 0) = false := by simp; omega
                          have e2 : decide (3 < way) = false := by simp; omega
                          have e3 : decide (by2 < 0) = false := by simp; omega
                          clear m1 m2 m3
                          go_wp2_with (first | (go_at_call 17; refine (move_any _ _ _ _ _ _ _ _ _ _ _).mono ?_; rintro e w' ⟨rfl, h7, d7, rfl⟩) | (go_at_call 16; refine (rmove_any _ _ _ _ _ _ _ _ _ _ hok hat Hm.out _).mono ?_; rintro e w' ⟨rfl, h6, d6, rfl⟩))
                          go_roundw
                          case rel => exact ⟨q + 1, by omega, by go_num, (by repeat' (first | (with_reducible exact Grows.refl _) | (with_reducible refine Grows.alloc ?_ _) | (with_reducible refine Grows.drew ?_) | (with_reducible refine Grows.ext ?_ _ _)))⟩
                          case measure => simp [intOf]; omega
                        · have hm2 : mOk way by2 = false := by simpa using hm
                          have hc : way < 0 ∨ (0 ≤ way ∧ 3 < way) ∨ (0 ≤ way ∧ way ≤ 3 ∧ by2 < 0) := by
                            rw [mOk_iff] at hm
                            omega
                          clear hm
                          have hc : decide (way < 0) = true ∨ (decide (way < 0) = false ∧ decide (3 < way) = true) ∨ (decide (way < 0) = false ∧ decide (3 < way) = false ∧ decide (by2 < 0) = true) := by simp; omega
                          rcases hc with hc | ⟨hc, hc2⟩ | ⟨hc, hc2, hc3⟩
                          all_goals
                            go_wp2_with (go_at_call 17; refine (move_any _ _ _ _ _ _ _ _ _ _ _).mono ?_; rintro e w' ⟨rfl, h7, d7, rfl⟩)
                            go_roundw
                            case rel => exact ⟨q + 1, by omega, by go_num, (by repeat' (first | (with_reducible exact Grows.refl _) | (with_reducible refine Grows.alloc ?_ _) | (with_reducible refine Grows.drew ?_) | (with_reducible refine Grows.ext ?_ _ _)))⟩
                            case measure => simp [intOf]; omega

end Go.Proofs.Ytepbknpdhiaepaa
