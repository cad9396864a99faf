/-
  Walk: the law CursorKnown.
-/
import Derived.Test.YtepbknpdhiaepaaRows
import Derived.Test.YtepbknpdhiaepaaLt
import Derived.Test.YtepbknpdhiaepaaDefs
import Derived.Test.YtepbknpdhiaepaaK5
import Derived.Test.YtepbknpdhiaepaaK6
import Derived.Test.YtepbknpdhiaepaaK8
import Derived.Test.YtepbknpdhiaepaaW14
import Derived.Test.YtepbknpdhiaepaaW16
import Derived.Test.YtepbknpdhiaepaaW2
import Derived.Test.YtepbknpdhiaepaaReg
import Derived.Test.YtepbknpdhiaepaaReg3
import Derived.WalkKit
import Derived.WalkSpells
import Derived.WalkLawsBesides
import Derived.Handy
import Derived.Laws.Rows
import Derived.Great.BuildSlice
import Derived.Deep.Heap
import Derived.IntWalk
import Derived.Lib.Hide
import Derived.Outline
import Derived.Deep.Light
import Derived.Deep.LoopGhost
import Derived.BigGuardPart
import Derived.BigQuiet
import Derived.Deep.QuietTactic
import Derived.Deep.RegionHeld3
import Derived.Deep.DeepCutAuto
namespace Go.Proofs.Ytepbknpdhiaepaa
open Go.RowKit

set_option maxRecDepth 100000 in
set_option maxHeartbeats 40000000 in
theorem lawKnown_true (w : World) : Calls Try.prog 10 #[] w (Ret (.bool true) w) := by
  go_enter Try.func10, Try.ntmps10
  go_wp2_with fail
  refine abs_worldK (fun W => Grows w W ∧ FldAt W w.heap.size 3 4 0 2 false ∧ BadAt W (w.heap.size + 1)) ⟨(by repeat' (first | (with_reducible exact Grows.refl _) | (with_reducible refine Grows.alloc ?_ _) | (with_reducible refine Grows.drew ?_) | (with_reducible refine Grows.ext ?_ _ _))), ⟨by simp [go_sem], by simp [go_sem], by simp [go_sem], by simp [go_sem], by simp [go_sem], by simp [go_sem]⟩, BadAt.of_row known_row⟩ ?_
  rintro w1 ⟨hG, hF, hB⟩
  obtain ⟨B2, hB2⟩ : ∃ n, n = w.heap.size + 1 := ⟨_, rfl⟩
  obtain ⟨B1, hB1⟩ : ∃ n, n = w.heap.size := ⟨_, rfl⟩
  rw [← hB2] at hB
  rw [← hB1] at hF
  simp only [← hB2]
  simp only [← hB1]
  clear hB1 hB2
  have HG := Lib.hid hG
  have HF := Lib.hid hF
  have HB := Lib.hid hB
  clear hG hF hB
  go_loopw [3] (fun i wr' => ∃ (wv : World) (k : Nat), wv = wr' ∧ k ≤ 9 ∧ i = .int .i64 k ∧ Grows w1 wv) (fun i _ => 9 - (intOf i).toNat)
  case atStart => exact ⟨_, 0, rfl, by omega, rfl, Grows.refl _⟩
  case round =>
    obtain ⟨wa, k, rfl, hk, rfl, hGa⟩ := hrel
    by_cases hk9 : k < 9
    · have e1 : decide ((k : Int) < 9) = true := by simp; omega
      have e2 : (0 : Int) ≤ (k : Int) := by omega
      have e3 : (k : Int) < 9 := by omega
      obtain ⟨b0, hb⟩ := HB.out.grows hGa
      obtain ⟨r, c, t, b, hbad, c0, c1, c2, c3, c4⟩ := hb k hk9
      have HM := Lib.hid fun W => move_badF r c t b hbad W
      clear hb hbad
      go_upto_region 6 with fail
      try simp only [ext_ext]
      first | (refine wp_region_fill_ext 9 10 (.cells #[.int .i64 0, .int .i64 0, .bool false] 27) (O' := ?ob11a) (by kernel_rfl) (by kernel_rfl) rfl rfl rfl rfl rfl (fun _ _ => by simp [go_sem]) ?_) | (refine wp_region_fill 9 10 (.cells #[.int .i64 0, .int .i64 0, .bool false] 27) (O' := ?ob11b) (by kernel_rfl) (by kernel_rfl) rfl rfl rfl rfl rfl (fun _ _ => by simp [go_sem]) ?_)
      rotate_left
      repeat (first | (refine xWalk_make rfl ?_) | (refine xWalk_op (by decide) (by decide) (fun K hK => ?_); go_simp; (try go_ints); first | (refine hK _ ?_; clear hK K) | (apply Exists.intro; refine ⟨fun xg => ?_, hK _ ?_⟩; (first | (go_at_call 43; exact lat_any _ _ _) | (go_at_call 17; exact HM.out _)); clear hK K)) | (refine xWalk_fill (by decide) rfl ?_ ?_; (intro xf yf; simp [go_sem, newPtr]; rfl)))
      refine xWalk_nil ?_
      intro x11 y11
      simp only [newPtr, ext_size]
      simp only [Act.put, List.setIfInBounds_toArray, List.set_cons_zero, List.set_cons_succ]
      go_upto_region 7 with (fail)
      refine abs_worldK (fun W => Grows w1 W) (by repeat' (first | (with_reducible exact hGa) | (with_reducible exact Grows.refl _) | (with_reducible refine Grows.alloc ?_ _) | (with_reducible refine Grows.drew ?_) | (with_reducible refine Grows.ext ?_ _ _))) ?_
      clear hGa b0 c0 c1 c2 c3 c4
      rintro wb hGb
      obtain ⟨b0, hb⟩ := HB.out.grows hGb
      obtain ⟨r', c', t', b', hbad, c0, c1, c2, c3, c4⟩ := hb k hk9
      have HS := Lib.hid fun W => fs_badF r' c' t' b' hbad W
      have HGb := Lib.hid hGb
      clear hb hbad hGb
      go_upto_region 8 with (first | (go_at_call 39; (with_reducible refine (HS.out _).mono ?_); rintro e w' ⟨rfl, h12, d12, rfl⟩) | (refine wpList_store_row rfl 80 (.tmp 6) (.tmp 83) rfl (_) #[.bool false, .int .i64 0, .int .i64 0, .bool false, .int .i64 0, .int .i64 0, .int .i64 0, .int .i64 0, .int .i64 0, .int .i64 0, .int .i64 0, .int .i64 0, .int .i64 0, .int .i64 0, .int .i64 0, .int .i64 0, .int .i64 0, .int .i64 0, .bool false] rfl rfl 80 #[.bool false, .int .i64 0, .int .i64 0, .bool false, .int .i64 0, .int .i64 0, .int .i64 0, .int .i64 0, .int .i64 0, .int .i64 0, .int .i64 0, .int .i64 0, .int .i64 0, .int .i64 0, .int .i64 0, .int .i64 0, .int .i64 0, .int .i64 0, .bool false] (row_at (by simp)) info80 rfl (oneCells false 0 0 false 0 0 0 0 0 0 0 0 0 0 0 0 0 0 false) ?_))
      refine abs_worldK (fun W => Grows w1 W) ((HGb.out.trans (((Grows.refl wb).ext _ _).alloc _)).setRowK (by have := HGb.out.below.size; omega) _) ?_
      clear b0 c0 c1 c2 c3 c4
      rintro wc hGc
      obtain ⟨b0, hb⟩ := HB.out.grows hGc
      obtain ⟨r'', c'', t'', b'', hbad, c0, c1, c2, c3, c4⟩ := hb k hk9
      have HC := Lib.hid fun W => ck_badF r'' c'' t'' b'' hbad W
      clear hb hbad
      go_wp2_with (first | (go_at_call 33; (with_reducible refine (HC.out _).mono ?_); rintro e w' ⟨rfl, h13, d13, rfl⟩))
      go_roundw
      case rel => exact ⟨_, k + 1, rfl, by omega, by go_num, (by repeat' (first | (with_reducible exact hGc) | (with_reducible exact Grows.refl _) | (with_reducible refine Grows.alloc ?_ _) | (with_reducible refine Grows.drew ?_) | (with_reducible refine Grows.ext ?_ _ _)))⟩
      case measure => simp [intOf]; omega
    · have e1 : decide ((k : Int) < 9) = false := by simp; omega
      go_upto_region 10 with fail
      have HG2 := Lib.hid (HG.out.trans hGa)
      have HF2 := Lib.hid (HF.out.grows hGa)
      clear HG HF HB hGa e1 hk hk9
      go_wp2_with (first | (go_at_call 43; (with_reducible refine (lat_any _ _ _).mono ?_); rintro e w' ⟨rfl, h14, d14, rfl⟩))
      refine abs_worldK (fun W => Grows wa W) (by repeat' (first | (with_reducible exact Grows.refl _) | (with_reducible refine Grows.alloc ?_ _) | (with_reducible refine Grows.drew ?_) | (with_reducible refine Grows.ext ?_ _ _))) ?_
      rintro w2 hG2
      have HG := Lib.hid (HG2.out.trans hG2)
      have HF := Lib.hid (HF2.out.grows hG2)
      clear HG2 HF2 hG2
      go_loopw [106] (fun i wr' => ∃ (wv : World) (k : Nat), wv = wr' ∧ k ≤ 6 ∧ i = .int .i64 k ∧ Grows w2 wv) (fun i _ => 6 - (intOf i).toNat)
      case atStart => exact ⟨_, 0, rfl, by omega, rfl, Grows.refl _⟩
      case round =>
        obtain ⟨wa, k, rfl, hk, rfl, hGa⟩ := hrel
        by_cases hk9 : k < 6
        · have e1 : decide ((k : Int) < 6) = true := by simp; omega
          obtain ⟨x, y, g, hbad, hix⟩ := kx k hk9
          obtain ⟨f0, f1, f2, f3, f4, f5⟩ := HF.out.grows hGa
          have HM := Lib.hid fun W => kMb x y g hbad W
          have HC := Lib.hid fun W => kCb x y g hbad W
          clear hbad
          go_wp2_with (first | (go_at_call 17; (with_reducible refine (HM.out _).mono ?_); rintro e w' ⟨rfl, h15, d15, rfl⟩) | (go_at_call 34; (with_reducible refine (HC.out _).mono ?_); rintro e w' ⟨rfl, h16, d16, rfl⟩))
          go_roundw
          case rel => exact ⟨_, k + 1, rfl, by omega, by go_num, (by repeat' (first | (with_reducible exact hGa) | (with_reducible exact Grows.refl _) | (with_reducible refine Grows.alloc ?_ _) | (with_reducible refine Grows.drew ?_) | (with_reducible refine Grows.ext ?_ _ _)))⟩
          case measure => simp [intOf]; omega
        · have e1 : decide ((k : Int) < 6) = false := by simp; omega
          go_upto_region 17 with fail
          refine abs_worldK (fun W => Grows w2 W) hGa ?_
          rintro v0 hG0
          have HG' := Lib.hid (HG.out.trans hG0)
          have HF' := Lib.hid (HF.out.grows hG0)
          clear HG HF hGa hG0 e1 hk hk9
          have HG := HG'; clear HG'
          have HF := HF'; clear HF'
          go_upto_region 18 with (fail)
          refine abs_worldK (fun W => Grows v0 W ∧ CvAt W (v0.heap.size) 1 3 true) ⟨(by repeat' (first | (with_reducible exact Grows.refl _) | (with_reducible refine Grows.alloc ?_ _) | (with_reducible refine Grows.drew ?_) | (with_reducible refine Grows.ext ?_ _ _))), ⟨by simp [go_sem], by simp [go_sem], by simp [go_sem], by simp [go_sem]⟩⟩ ?_
          rintro v1 ⟨hG, qa⟩
          obtain ⟨Na, hN⟩ : ∃ n, n = v0.heap.size := ⟨_, rfl⟩
          rw [← hN] at qa
          (try simp only [← hN])
          clear hN
          have HF' := Lib.hid (HF.out.grows hG)
          clear HF
          have HF := HF'; clear HF'
          have Ha := Lib.hid qa
          clear qa
          have HG' := Lib.hid (HG.out.trans hG)
          clear HG hG
          have HG := HG'; clear HG'
          obtain ⟨F_0, F_1, F_2, F_3, F_4, F_5⟩ := HF.out
          obtain ⟨a_0, a_1, a_2, a_3⟩ := Ha.out
          go_upto_region 19 with (first | (go_at_call 17; (with_reducible refine (kM1 _).mono ?_); rintro e w' ⟨rfl, h17, d17, rfl⟩))
          refine abs_worldK (fun W => Grows v1 W ∧ CvAt W (v1.heap.size + h17.size) 1 3 false) ⟨(by repeat' (first | (with_reducible exact Grows.refl _) | (with_reducible refine Grows.alloc ?_ _) | (with_reducible refine Grows.drew ?_) | (with_reducible refine Grows.ext ?_ _ _))), ⟨by simp [go_sem], by simp [go_sem], by simp [go_sem], by simp [go_sem]⟩⟩ ?_
          rintro v2 ⟨hG, qb⟩
          obtain ⟨Nb, hN⟩ : ∃ n, n = v1.heap.size + h17.size := ⟨_, rfl⟩
          rw [← hN] at qb
          (try simp only [← hN])
          clear hN
          have HF' := Lib.hid (HF.out.grows hG)
          clear HF
          have HF := HF'; clear HF'
          have Ha' := Lib.hid (Ha.out.grows hG)
          clear Ha
          have Ha := Ha'; clear Ha'
          have Hb := Lib.hid qb
          clear qb
          have HG' := Lib.hid (HG.out.trans hG)
          clear HG hG
          have HG := HG'; clear HG'
          clear F_0 F_1 F_2 F_3 F_4 F_5
          clear a_0 a_1 a_2 a_3
          obtain ⟨F_0, F_1, F_2, F_3, F_4, F_5⟩ := HF.out
          go_upto_region 20 with (first | (go_at_call 37; (with_reducible refine (kF1 _).mono ?_); rintro e w' ⟨rfl, h18, d18, rfl⟩))
          refine abs_worldK (fun W => Grows v2 W ∧ CvAt W (v2.heap.size + h18.size) 2 3 false) ⟨(by repeat' (first | (with_reducible exact Grows.refl _) | (with_reducible refine Grows.alloc ?_ _) | (with_reducible refine Grows.drew ?_) | (with_reducible refine Grows.ext ?_ _ _))), ⟨by simp [go_sem], by simp [go_sem], by simp [go_sem], by simp [go_sem]⟩⟩ ?_
          rintro v3 ⟨hG, qc⟩
          obtain ⟨Nc, hN⟩ : ∃ n, n = v2.heap.size + h18.size := ⟨_, rfl⟩
          rw [← hN] at qc
          (try simp only [← hN])
          clear hN
          have HF' := Lib.hid (HF.out.grows hG)
          clear HF
          have HF := HF'; clear HF'
          have Ha' := Lib.hid (Ha.out.grows hG)
          clear Ha
          have Ha := Ha'; clear Ha'
          have Hb' := Lib.hid (Hb.out.grows hG)
          clear Hb
          have Hb := Hb'; clear Hb'
          have Hc := Lib.hid qc
          clear qc
          have HG' := Lib.hid (HG.out.trans hG)
          clear HG hG
          have HG := HG'; clear HG'
          clear F_0 F_1 F_2 F_3 F_4 F_5
          obtain ⟨F_0, F_1, F_2, F_3, F_4, F_5⟩ := HF.out
          go_upto_region 21 with (first | (go_at_call 37; (with_reducible refine (kF2 _).mono ?_); rintro e w' ⟨rfl, h19, d19, rfl⟩))
          refine abs_worldK (fun W => Grows v3 W ∧ CvAt W (v3.heap.size + h19.size) 0 3 true) ⟨(by repeat' (first | (with_reducible exact Grows.refl _) | (with_reducible refine Grows.alloc ?_ _) | (with_reducible refine Grows.drew ?_) | (with_reducible refine Grows.ext ?_ _ _))), ⟨by simp [go_sem], by simp [go_sem], by simp [go_sem], by simp [go_sem]⟩⟩ ?_
          rintro v4 ⟨hG, qd⟩
          obtain ⟨Nd, hN⟩ : ∃ n, n = v3.heap.size + h19.size := ⟨_, rfl⟩
          rw [← hN] at qd
          (try simp only [← hN])
          clear hN
          have HF' := Lib.hid (HF.out.grows hG)
          clear HF
          have HF := HF'; clear HF'
          have Ha' := Lib.hid (Ha.out.grows hG)
          clear Ha
          have Ha := Ha'; clear Ha'
          have Hb' := Lib.hid (Hb.out.grows hG)
          clear Hb
          have Hb := Hb'; clear Hb'
          have Hc' := Lib.hid (Hc.out.grows hG)
          clear Hc
          have Hc := Hc'; clear Hc'
          have Hd := Lib.hid qd
          clear qd
          have HG' := Lib.hid (HG.out.trans hG)
          clear HG hG
          have HG := HG'; clear HG'
          clear F_0 F_1 F_2 F_3 F_4 F_5
          obtain ⟨F_0, F_1, F_2, F_3, F_4, F_5⟩ := HF.out
          obtain ⟨a_0, a_1, a_2, a_3⟩ := Ha.out
          go_upto_region 22 with (first | (go_at_call 17; (with_reducible refine (kM2 _).mono ?_); rintro e w' ⟨rfl, h20, d20, rfl⟩))
          refine abs_worldK (fun W => Grows v4 W) (by repeat' (first | (with_reducible exact Grows.refl _) | (with_reducible refine Grows.alloc ?_ _) | (with_reducible refine Grows.drew ?_) | (with_reducible refine Grows.ext ?_ _ _))) ?_
          rintro v5 hG
          have HF' := Lib.hid (HF.out.grows hG)
          clear HF
          have HF := HF'; clear HF'
          have Ha' := Lib.hid (Ha.out.grows hG)
          clear Ha
          have Ha := Ha'; clear Ha'
          have Hb' := Lib.hid (Hb.out.grows hG)
          clear Hb
          have Hb := Hb'; clear Hb'
          have Hc' := Lib.hid (Hc.out.grows hG)
          clear Hc
          have Hc := Hc'; clear Hc'
          have Hd' := Lib.hid (Hd.out.grows hG)
          clear Hd
          have Hd := Hd'; clear Hd'
          have HG' := Lib.hid (HG.out.trans hG)
          clear HG hG
          have HG := HG'; clear HG'
          clear F_0 F_1 F_2 F_3 F_4 F_5
          clear a_0 a_1 a_2 a_3
          obtain ⟨F_0, F_1, F_2, F_3, F_4, F_5⟩ := HF.out
          obtain ⟨a_0, a_1, a_2, a_3⟩ := Ha.out
          go_upto_region 23 with (first | (go_at_call 17; (with_reducible refine (kM3 _).mono ?_); rintro e w' ⟨rfl, h21, d21, rfl⟩))
          refine abs_worldK (fun W => Grows v5 W) (by repeat' (first | (with_reducible exact Grows.refl _) | (with_reducible refine Grows.alloc ?_ _) | (with_reducible refine Grows.drew ?_) | (with_reducible refine Grows.ext ?_ _ _))) ?_
          rintro v6 hG
          have HF' := Lib.hid (HF.out.grows hG)
          clear HF
          have HF := HF'; clear HF'
          have Ha' := Lib.hid (Ha.out.grows hG)
          clear Ha
          have Ha := Ha'; clear Ha'
          have Hb' := Lib.hid (Hb.out.grows hG)
          clear Hb
          have Hb := Hb'; clear Hb'
          have Hc' := Lib.hid (Hc.out.grows hG)
          clear Hc
          have Hc := Hc'; clear Hc'
          have Hd' := Lib.hid (Hd.out.grows hG)
          clear Hd
          have Hd := Hd'; clear Hd'
          have HG' := Lib.hid (HG.out.trans hG)
          clear HG hG
          have HG := HG'; clear HG'
          clear F_0 F_1 F_2 F_3 F_4 F_5
          clear a_0 a_1 a_2 a_3
          obtain ⟨F_0, F_1, F_2, F_3, F_4, F_5⟩ := HF.out
          go_upto_region 24 with (first | (go_at_call 25; (with_reducible refine (kG1 _).mono ?_); rintro e w' ⟨rfl, h22, d22, rfl⟩))
          refine abs_worldK (fun W => Grows v6 W ∧ CvAt W (v6.heap.size + h22.size) 2 0 false) ⟨(by repeat' (first | (with_reducible exact Grows.refl _) | (with_reducible refine Grows.alloc ?_ _) | (with_reducible refine Grows.drew ?_) | (with_reducible refine Grows.ext ?_ _ _))), ⟨by simp [go_sem], by simp [go_sem], by simp [go_sem], by simp [go_sem]⟩⟩ ?_
          rintro v7 ⟨hG, qe⟩
          obtain ⟨Ne, hN⟩ : ∃ n, n = v6.heap.size + h22.size := ⟨_, rfl⟩
          rw [← hN] at qe
          (try simp only [← hN])
          clear hN
          have HF' := Lib.hid (HF.out.grows hG)
          clear HF
          have HF := HF'; clear HF'
          have Ha' := Lib.hid (Ha.out.grows hG)
          clear Ha
          have Ha := Ha'; clear Ha'
          have Hb' := Lib.hid (Hb.out.grows hG)
          clear Hb
          have Hb := Hb'; clear Hb'
          have Hc' := Lib.hid (Hc.out.grows hG)
          clear Hc
          have Hc := Hc'; clear Hc'
          have Hd' := Lib.hid (Hd.out.grows hG)
          clear Hd
          have Hd := Hd'; clear Hd'
          have He := Lib.hid qe
          clear qe
          have HG' := Lib.hid (HG.out.trans hG)
          clear HG hG
          have HG := HG'; clear HG'
          clear F_0 F_1 F_2 F_3 F_4 F_5
          obtain ⟨F_0, F_1, F_2, F_3, F_4, F_5⟩ := HF.out
          try simp only [ext_ext]
          first | (refine wp_region_fill_ext 6 7 (.cells #[.int .i64 0, .int .i64 0, .bool false] 27) (O' := ?ob23a) (by kernel_rfl) (by kernel_rfl) rfl rfl rfl rfl rfl (fun _ _ => by simp [go_sem]) ?_) | (refine wp_region_fill 6 7 (.cells #[.int .i64 0, .int .i64 0, .bool false] 27) (O' := ?ob23b) (by kernel_rfl) (by kernel_rfl) rfl rfl rfl rfl rfl (fun _ _ => by simp [go_sem]) ?_)
          rotate_left
          repeat (first | (refine xWalk_make rfl ?_) | (refine xWalk_op (by decide) (by decide) (fun K hK => ?_); go_simp; (try go_ints); first | (refine hK _ ?_; clear hK K) | (apply Exists.intro; refine ⟨fun xg => ?_, hK _ ?_⟩; (first | (go_at_call 43; exact lat_any _ _ _) | (go_at_call 17; exact kM4 _)); clear hK K)) | (refine xWalk_fill (by decide) rfl ?_ ?_; (intro xf yf; simp [go_sem, newPtr]; rfl)))
          refine xWalk_nil ?_
          intro x23 y23
          simp only [newPtr, ext_size]
          simp only [Act.put, List.setIfInBounds_toArray, List.set_cons_zero, List.set_cons_succ]
          go_upto_region 25 with (fail)
          refine abs_worldK (fun W => Grows v7 W ∧ CvAt W (v7.heap.size + x23.h.size) 2 1 false) ⟨(by repeat' (first | (with_reducible exact Grows.refl _) | (with_reducible refine Grows.alloc ?_ _) | (with_reducible refine Grows.drew ?_) | (with_reducible refine Grows.ext ?_ _ _))), ⟨by simp [go_sem], by simp [go_sem], by simp [go_sem], by simp [go_sem]⟩⟩ ?_
          rintro v8 ⟨hG, qg⟩
          obtain ⟨Ng, hN⟩ : ∃ n, n = v7.heap.size + x23.h.size := ⟨_, rfl⟩
          rw [← hN] at qg
          (try simp only [← hN])
          clear hN
          have HF' := Lib.hid (HF.out.grows hG)
          clear HF
          have HF := HF'; clear HF'
          have Ha' := Lib.hid (Ha.out.grows hG)
          clear Ha
          have Ha := Ha'; clear Ha'
          have Hb' := Lib.hid (Hb.out.grows hG)
          clear Hb
          have Hb := Hb'; clear Hb'
          have Hc' := Lib.hid (Hc.out.grows hG)
          clear Hc
          have Hc := Hc'; clear Hc'
          have Hd' := Lib.hid (Hd.out.grows hG)
          clear Hd
          have Hd := Hd'; clear Hd'
          have He' := Lib.hid (He.out.grows hG)
          clear He
          have He := He'; clear He'
          have Hg := Lib.hid qg
          clear qg
          have HG' := Lib.hid (HG.out.trans hG)
          clear HG hG
          have HG := HG'; clear HG'
          clear F_0 F_1 F_2 F_3 F_4 F_5
          obtain ⟨F_0, F_1, F_2, F_3, F_4, F_5⟩ := HF.out
          obtain ⟨a_0, a_1, a_2, a_3⟩ := Ha.out
          obtain ⟨b_0, b_1, b_2, b_3⟩ := Hb.out
          obtain ⟨c_0, c_1, c_2, c_3⟩ := Hc.out
          obtain ⟨d_0, d_1, d_2, d_3⟩ := Hd.out
          obtain ⟨e_0, e_1, e_2, e_3⟩ := He.out
          obtain ⟨g_0, g_1, g_2, g_3⟩ := Hg.out
          go_upto_region 26 with (first | (go_at_call 34; (with_reducible refine (kC1 _).mono ?_); rintro e w' ⟨rfl, h24, d24, rfl⟩) | (go_at_call 27; (with_reducible refine (is_yes _ _ _ _ _ _ (by decide) _).mono ?_); rintro e w' ⟨rfl, h25, d25, rfl⟩))
          refine abs_worldK (fun W => Grows v8 W) (by repeat' (first | (with_reducible exact Grows.refl _) | (with_reducible refine Grows.alloc ?_ _) | (with_reducible refine Grows.drew ?_) | (with_reducible refine Grows.ext ?_ _ _))) ?_
          rintro v9 hG
          have HF' := Lib.hid (HF.out.grows hG)
          clear HF
          have HF := HF'; clear HF'
          have Ha' := Lib.hid (Ha.out.grows hG)
          clear Ha
          have Ha := Ha'; clear Ha'
          have Hb' := Lib.hid (Hb.out.grows hG)
          clear Hb
          have Hb := Hb'; clear Hb'
          have Hc' := Lib.hid (Hc.out.grows hG)
          clear Hc
          have Hc := Hc'; clear Hc'
          have Hd' := Lib.hid (Hd.out.grows hG)
          clear Hd
          have Hd := Hd'; clear Hd'
          have He' := Lib.hid (He.out.grows hG)
          clear He
          have He := He'; clear He'
          have Hg' := Lib.hid (Hg.out.grows hG)
          clear Hg
          have Hg := Hg'; clear Hg'
          have HG' := Lib.hid (HG.out.trans hG)
          clear HG hG
          have HG := HG'; clear HG'
          clear F_0 F_1 F_2 F_3 F_4 F_5
          clear a_0 a_1 a_2 a_3
          clear b_0 b_1 b_2 b_3
          clear c_0 c_1 c_2 c_3
          clear d_0 d_1 d_2 d_3
          clear e_0 e_1 e_2 e_3
          clear g_0 g_1 g_2 g_3
          go_upto_region 27 with (first | (refine wpList_store_row rfl 80 (.tmp 28) (.tmp 209) rfl (v9.heap.size) #[.bool true, .int .i64 5, .int .i64 3, .bool true, .int .i64 1, .int .i64 0, .int .i64 0, .int .i64 0, .int .i64 0, .int .i64 0, .int .i64 0, .int .i64 0, .int .i64 0, .int .i64 0, .int .i64 0, .int .i64 0, .int .i64 0, .int .i64 0, .bool true] rfl rfl 80 #[.bool false, .int .i64 0, .int .i64 0, .bool false, .int .i64 0, .int .i64 0, .int .i64 0, .int .i64 0, .int .i64 0, .int .i64 0, .int .i64 0, .int .i64 0, .int .i64 0, .int .i64 0, .int .i64 0, .int .i64 0, .int .i64 0, .int .i64 0, .bool false] (row_at (by simp)) info80 rfl (oneCells true 5 3 true 1 0 0 0 0 0 0 0 0 0 0 0 0 0 true) ?_))
          refine abs_worldK (fun W => Grows v9 W ∧ W.heap[(v9.heap.size)]? = some (.cells #[.bool true, .int .i64 5, .int .i64 3, .bool true, .int .i64 1, .int .i64 0, .int .i64 0, .int .i64 0, .int .i64 0, .int .i64 0, .int .i64 0, .int .i64 0, .int .i64 0, .int .i64 0, .int .i64 0, .int .i64 0, .int .i64 0, .int .i64 0, .bool true] 80 (0, 0))) ⟨(Grows.setRowK (by repeat' (first | (with_reducible exact Grows.refl _) | (with_reducible refine Grows.alloc ?_ _) | (with_reducible refine Grows.drew ?_) | (with_reducible refine Grows.ext ?_ _ _))) (by omega) _), setRow_heap _ _ _ _ _ _ (row_at (by simp))⟩ ?_
          rintro v10 ⟨hG, qs⟩
          obtain ⟨Ns, hN⟩ : ∃ n, n = v9.heap.size := ⟨_, rfl⟩
          rw [← hN] at qs
          (try simp only [← hN])
          clear hN
          have HF' := Lib.hid (HF.out.grows hG)
          clear HF
          have HF := HF'; clear HF'
          have Ha' := Lib.hid (Ha.out.grows hG)
          clear Ha
          have Ha := Ha'; clear Ha'
          have Hb' := Lib.hid (Hb.out.grows hG)
          clear Hb
          have Hb := Hb'; clear Hb'
          have Hc' := Lib.hid (Hc.out.grows hG)
          clear Hc
          have Hc := Hc'; clear Hc'
          have Hd' := Lib.hid (Hd.out.grows hG)
          clear Hd
          have Hd := Hd'; clear Hd'
          have He' := Lib.hid (He.out.grows hG)
          clear He
          have He := He'; clear He'
          have Hg' := Lib.hid (Hg.out.grows hG)
          clear Hg
          have Hg := Hg'; clear Hg'
          have Hs := Lib.hid qs
          clear qs
          have HG' := Lib.hid (HG.out.trans hG)
          clear HG hG
          have HG := HG'; clear HG'
          obtain ⟨F_0, F_1, F_2, F_3, F_4, F_5⟩ := HF.out
          go_upto_region 28 with (first | ((with_reducible refine wpList_load_rowW (o := ⟨_, .load 80 (.tmp 28), _, _, _, _⟩) ?_ 80 (.tmp 28) ?_ Ns ?_ 80 #[.bool true, .int .i64 5, .int .i64 3, .bool true, .int .i64 1, .int .i64 0, .int .i64 0, .int .i64 0, .int .i64 0, .int .i64 0, .int .i64 0, .int .i64 0, .int .i64 0, .int .i64 0, .int .i64 0, .int .i64 0, .int .i64 0, .int .i64 0, .bool true] (0, 0) _ ?_ Try.underlying80 ?_ ?_ ?_); kernel_rfl; exact rfl; exact rfl; exact Hs.out; exact rfl; exact info80) | (go_at_call 39; (with_reducible refine (kS1 _).mono ?_); rintro e w' ⟨rfl, h26, d26, rfl⟩) | (refine wpList_store_row rfl 80 (.tmp 29) (.tmp 214) rfl (v10.heap.size + h26.size) #[.bool true, .int .i64 2, .int .i64 3, .bool true, .int .i64 1, .int .i64 0, .int .i64 0, .int .i64 0, .int .i64 0, .int .i64 0, .int .i64 0, .int .i64 0, .int .i64 0, .int .i64 0, .int .i64 0, .int .i64 0, .int .i64 0, .int .i64 0, .bool true] rfl rfl 80 #[.bool false, .int .i64 0, .int .i64 0, .bool false, .int .i64 0, .int .i64 0, .int .i64 0, .int .i64 0, .int .i64 0, .int .i64 0, .int .i64 0, .int .i64 0, .int .i64 0, .int .i64 0, .int .i64 0, .int .i64 0, .int .i64 0, .int .i64 0, .bool false] (row_at (by simp)) info80 rfl (oneCells true 2 3 true 1 0 0 0 0 0 0 0 0 0 0 0 0 0 true) ?_))
          refine abs_worldK (fun W => Grows v10 W ∧ W.heap[(v10.heap.size + h26.size)]? = some (.cells #[.bool true, .int .i64 2, .int .i64 3, .bool true, .int .i64 1, .int .i64 0, .int .i64 0, .int .i64 0, .int .i64 0, .int .i64 0, .int .i64 0, .int .i64 0, .int .i64 0, .int .i64 0, .int .i64 0, .int .i64 0, .int .i64 0, .int .i64 0, .bool true] 80 (0, 0))) ⟨(Grows.setRowK (by repeat' (first | (with_reducible exact Grows.refl _) | (with_reducible refine Grows.alloc ?_ _) | (with_reducible refine Grows.drew ?_) | (with_reducible refine Grows.ext ?_ _ _))) (by omega) _), setRow_heap _ _ _ _ _ _ (row_at (by simp))⟩ ?_
          rintro v11 ⟨hG, qfit⟩
          obtain ⟨Nfit, hN⟩ : ∃ n, n = v10.heap.size + h26.size := ⟨_, rfl⟩
          rw [← hN] at qfit
          (try simp only [← hN])
          clear hN
          have HF' := Lib.hid (HF.out.grows hG)
          clear HF
          have HF := HF'; clear HF'
          have Ha' := Lib.hid (Ha.out.grows hG)
          clear Ha
          have Ha := Ha'; clear Ha'
          have Hb' := Lib.hid (Hb.out.grows hG)
          clear Hb
          have Hb := Hb'; clear Hb'
          have Hc' := Lib.hid (Hc.out.grows hG)
          clear Hc
          have Hc := Hc'; clear Hc'
          have Hd' := Lib.hid (Hd.out.grows hG)
          clear Hd
          have Hd := Hd'; clear Hd'
          have He' := Lib.hid (He.out.grows hG)
          clear He
          have He := He'; clear He'
          have Hg' := Lib.hid (Hg.out.grows hG)
          clear Hg
          have Hg := Hg'; clear Hg'
          have Hs' := Lib.hid (Grows.rowK Hs.out hG)
          clear Hs
          have Hs := Hs'; clear Hs'
          have Hfit := Lib.hid qfit
          clear qfit
          have HG' := Lib.hid (HG.out.trans hG)
          clear HG hG
          have HG := HG'; clear HG'
          clear F_0 F_1 F_2 F_3 F_4 F_5
          obtain ⟨F_0, F_1, F_2, F_3, F_4, F_5⟩ := HF.out
          go_upto_region 29 with (first | (go_at_call 39; (with_reducible refine (kS2 _).mono ?_); rintro e w' ⟨rfl, h27, d27, rfl⟩) | (refine wpList_store_row rfl 80 (.tmp 31) (.tmp 220) rfl (v11.heap.size + h27.size) #[.bool false, .int .i64 0, .int .i64 0, .bool false, .int .i64 0, .int .i64 0, .int .i64 0, .int .i64 0, .int .i64 0, .int .i64 0, .int .i64 0, .int .i64 0, .int .i64 0, .int .i64 0, .int .i64 0, .int .i64 0, .int .i64 0, .int .i64 0, .bool false] rfl rfl 80 #[.bool false, .int .i64 0, .int .i64 0, .bool false, .int .i64 0, .int .i64 0, .int .i64 0, .int .i64 0, .int .i64 0, .int .i64 0, .int .i64 0, .int .i64 0, .int .i64 0, .int .i64 0, .int .i64 0, .int .i64 0, .int .i64 0, .int .i64 0, .bool false] (row_at (by simp)) info80 rfl (oneCells false 0 0 false 0 0 0 0 0 0 0 0 0 0 0 0 0 0 false) ?_))
          refine abs_worldK (fun W => Grows v11 W ∧ W.heap[(v11.heap.size + h27.size)]? = some (.cells #[.bool false, .int .i64 0, .int .i64 0, .bool false, .int .i64 0, .int .i64 0, .int .i64 0, .int .i64 0, .int .i64 0, .int .i64 0, .int .i64 0, .int .i64 0, .int .i64 0, .int .i64 0, .int .i64 0, .int .i64 0, .int .i64 0, .int .i64 0, .bool false] 80 (0, 0))) ⟨(Grows.setRowK (by repeat' (first | (with_reducible exact Grows.refl _) | (with_reducible refine Grows.alloc ?_ _) | (with_reducible refine Grows.drew ?_) | (with_reducible refine Grows.ext ?_ _ _))) (by omega) _), setRow_heap _ _ _ _ _ _ (row_at (by simp))⟩ ?_
          rintro v12 ⟨hG, qnone⟩
          obtain ⟨Nnone, hN⟩ : ∃ n, n = v11.heap.size + h27.size := ⟨_, rfl⟩
          rw [← hN] at qnone
          (try simp only [← hN])
          clear hN
          have HF' := Lib.hid (HF.out.grows hG)
          clear HF
          have HF := HF'; clear HF'
          have Ha' := Lib.hid (Ha.out.grows hG)
          clear Ha
          have Ha := Ha'; clear Ha'
          have Hb' := Lib.hid (Hb.out.grows hG)
          clear Hb
          have Hb := Hb'; clear Hb'
          have Hc' := Lib.hid (Hc.out.grows hG)
          clear Hc
          have Hc := Hc'; clear Hc'
          have Hd' := Lib.hid (Hd.out.grows hG)
          clear Hd
          have Hd := Hd'; clear Hd'
          have He' := Lib.hid (He.out.grows hG)
          clear He
          have He := He'; clear He'
          have Hg' := Lib.hid (Hg.out.grows hG)
          clear Hg
          have Hg := Hg'; clear Hg'
          have Hs' := Lib.hid (Grows.rowK Hs.out hG)
          clear Hs
          have Hs := Hs'; clear Hs'
          have Hfit' := Lib.hid (Grows.rowK Hfit.out hG)
          clear Hfit
          have Hfit := Hfit'; clear Hfit'
          have Hnone := Lib.hid qnone
          clear qnone
          have HG' := Lib.hid (HG.out.trans hG)
          clear HG hG
          have HG := HG'; clear HG'
          clear F_0 F_1 F_2 F_3 F_4 F_5
          obtain ⟨F_0, F_1, F_2, F_3, F_4, F_5⟩ := HF.out
          go_upto_region 30 with (first | (go_at_call 39; (with_reducible refine (kS3 _).mono ?_); rintro e w' ⟨rfl, h28, d28, rfl⟩) | (refine wpList_store_row rfl 80 (.tmp 33) (.tmp 227) rfl (v12.heap.size + h28.size) #[.bool false, .int .i64 0, .int .i64 0, .bool false, .int .i64 0, .int .i64 0, .int .i64 0, .int .i64 0, .int .i64 0, .int .i64 0, .int .i64 0, .int .i64 0, .int .i64 0, .int .i64 0, .int .i64 0, .int .i64 0, .int .i64 0, .int .i64 0, .bool false] rfl rfl 80 #[.bool false, .int .i64 0, .int .i64 0, .bool false, .int .i64 0, .int .i64 0, .int .i64 0, .int .i64 0, .int .i64 0, .int .i64 0, .int .i64 0, .int .i64 0, .int .i64 0, .int .i64 0, .int .i64 0, .int .i64 0, .int .i64 0, .int .i64 0, .bool false] (row_at (by simp)) info80 rfl (oneCells false 0 0 false 0 0 0 0 0 0 0 0 0 0 0 0 0 0 false) ?_))
          refine abs_worldK (fun W => Grows v12 W ∧ W.heap[(v12.heap.size + h28.size)]? = some (.cells #[.bool false, .int .i64 0, .int .i64 0, .bool false, .int .i64 0, .int .i64 0, .int .i64 0, .int .i64 0, .int .i64 0, .int .i64 0, .int .i64 0, .int .i64 0, .int .i64 0, .int .i64 0, .int .i64 0, .int .i64 0, .int .i64 0, .int .i64 0, .bool false] 80 (0, 0))) ⟨(Grows.setRowK (by repeat' (first | (with_reducible exact Grows.refl _) | (with_reducible refine Grows.alloc ?_ _) | (with_reducible refine Grows.drew ?_) | (with_reducible refine Grows.ext ?_ _ _))) (by omega) _), setRow_heap _ _ _ _ _ _ (row_at (by simp))⟩ ?_
          rintro v13 ⟨hG, qbad⟩
          obtain ⟨Nbad, hN⟩ : ∃ n, n = v12.heap.size + h28.size := ⟨_, rfl⟩
          rw [← hN] at qbad
          (try simp only [← hN])
          clear hN
          have HF' := Lib.hid (HF.out.grows hG)
          clear HF
          have HF := HF'; clear HF'
          have Ha' := Lib.hid (Ha.out.grows hG)
          clear Ha
          have Ha := Ha'; clear Ha'
          have Hb' := Lib.hid (Hb.out.grows hG)
          clear Hb
          have Hb := Hb'; clear Hb'
          have Hc' := Lib.hid (Hc.out.grows hG)
          clear Hc
          have Hc := Hc'; clear Hc'
          have Hd' := Lib.hid (Hd.out.grows hG)
          clear Hd
          have Hd := Hd'; clear Hd'
          have He' := Lib.hid (He.out.grows hG)
          clear He
          have He := He'; clear He'
          have Hg' := Lib.hid (Hg.out.grows hG)
          clear Hg
          have Hg := Hg'; clear Hg'
          have Hs' := Lib.hid (Grows.rowK Hs.out hG)
          clear Hs
          have Hs := Hs'; clear Hs'
          have Hfit' := Lib.hid (Grows.rowK Hfit.out hG)
          clear Hfit
          have Hfit := Hfit'; clear Hfit'
          have Hnone' := Lib.hid (Grows.rowK Hnone.out hG)
          clear Hnone
          have Hnone := Hnone'; clear Hnone'
          have Hbad := Lib.hid qbad
          clear qbad
          have HG' := Lib.hid (HG.out.trans hG)
          clear HG hG
          have HG := HG'; clear HG'
          clear F_0 F_1 F_2 F_3 F_4 F_5
          obtain ⟨F_0, F_1, F_2, F_3, F_4, F_5⟩ := HF.out
          have s0 : v13.cell? ⟨Nfit, 0, none⟩ = some (.bool true) := (cell_of_row v13 _ 0 _ 80 (0, 0) Hfit.out).trans rfl
          have s1 : v13.cell? ⟨Nfit, 1, none⟩ = some (.int .i64 2) := (cell_of_row v13 _ 1 _ 80 (0, 0) Hfit.out).trans rfl
          have s2 : v13.cell? ⟨Nfit, 2, none⟩ = some (.int .i64 3) := (cell_of_row v13 _ 2 _ 80 (0, 0) Hfit.out).trans rfl
          have s3 : v13.cell? ⟨Nfit, 3, none⟩ = some (.bool true) := (cell_of_row v13 _ 3 _ 80 (0, 0) Hfit.out).trans rfl
          have s4 : v13.cell? ⟨Nfit, 4, none⟩ = some (.int .i64 1) := (cell_of_row v13 _ 4 _ 80 (0, 0) Hfit.out).trans rfl
          have s18 : v13.cell? ⟨Nfit, 18, none⟩ = some (.bool true) := (cell_of_row v13 _ 18 _ 80 (0, 0) Hfit.out).trans rfl
          have hsz : Nfit < v13.heap.size := (Array.getElem?_eq_some_iff.1 Hfit.out).1
          have hqq := kEq
          go_upto_region 31 with (first | ((with_reducible refine wpList_load_rowW (o := ⟨_, .load 80 (.tmp 28), _, _, _, _⟩) ?_ 80 (.tmp 28) ?_ Ns ?_ 80 #[.bool true, .int .i64 5, .int .i64 3, .bool true, .int .i64 1, .int .i64 0, .int .i64 0, .int .i64 0, .int .i64 0, .int .i64 0, .int .i64 0, .int .i64 0, .int .i64 0, .int .i64 0, .int .i64 0, .int .i64 0, .int .i64 0, .int .i64 0, .bool true] (0, 0) _ ?_ Try.underlying80 ?_ ?_ ?_); kernel_rfl; exact rfl; exact rfl; exact Hs.out; exact rfl; exact info80) | ((with_reducible refine wpList_load_rowW (o := ⟨_, .load 80 (.tmp 29), _, _, _, _⟩) ?_ 80 (.tmp 29) ?_ Nfit ?_ 80 #[.bool true, .int .i64 2, .int .i64 3, .bool true, .int .i64 1, .int .i64 0, .int .i64 0, .int .i64 0, .int .i64 0, .int .i64 0, .int .i64 0, .int .i64 0, .int .i64 0, .int .i64 0, .int .i64 0, .int .i64 0, .int .i64 0, .int .i64 0, .bool true] (0, 0) _ ?_ Try.underlying80 ?_ ?_ ?_); kernel_rfl; exact rfl; exact rfl; exact (Grows.rowK Hfit.out (by repeat' (first | (with_reducible exact Grows.refl _) | (with_reducible refine Grows.alloc ?_ _) | (with_reducible refine Grows.drew ?_) | (with_reducible refine Grows.ext ?_ _ _)))); exact rfl; exact info80) | ((with_reducible refine wpList_load_rowW (o := ⟨_, .load 80 (.tmp 31), _, _, _, _⟩) ?_ 80 (.tmp 31) ?_ Nnone ?_ 80 #[.bool false, .int .i64 0, .int .i64 0, .bool false, .int .i64 0, .int .i64 0, .int .i64 0, .int .i64 0, .int .i64 0, .int .i64 0, .int .i64 0, .int .i64 0, .int .i64 0, .int .i64 0, .int .i64 0, .int .i64 0, .int .i64 0, .int .i64 0, .bool false] (0, 0) _ ?_ Try.underlying80 ?_ ?_ ?_); kernel_rfl; exact rfl; exact rfl; exact (Grows.rowK Hnone.out (by repeat' (first | (with_reducible exact Grows.refl _) | (with_reducible refine Grows.alloc ?_ _) | (with_reducible refine Grows.drew ?_) | (with_reducible refine Grows.ext ?_ _ _)))); exact rfl; exact info80) | (go_at_call 42; (with_reducible refine (kV1 _).mono ?_); rintro e w' ⟨rfl, h29, d29, rfl⟩) | (go_at_call 42; (with_reducible refine (kV2 _).mono ?_); rintro e w' ⟨rfl, h30, d30, rfl⟩) | (go_at_call 42; (with_reducible refine (kV3 _).mono ?_); rintro e w' ⟨rfl, h31, d31, rfl⟩) | (go_at_call 42; (with_reducible refine (kV4 _).mono ?_); rintro e w' ⟨rfl, h32, d32, rfl⟩))
          refine abs_worldK (fun W => Grows v13 W) (by repeat' (first | (with_reducible exact Grows.refl _) | (with_reducible refine Grows.alloc ?_ _) | (with_reducible refine Grows.drew ?_) | (with_reducible refine Grows.ext ?_ _ _))) ?_
          rintro v14 hG
          have HF' := Lib.hid (HF.out.grows hG)
          clear HF
          have HF := HF'; clear HF'
          have Ha' := Lib.hid (Ha.out.grows hG)
          clear Ha
          have Ha := Ha'; clear Ha'
          have Hb' := Lib.hid (Hb.out.grows hG)
          clear Hb
          have Hb := Hb'; clear Hb'
          have Hc' := Lib.hid (Hc.out.grows hG)
          clear Hc
          have Hc := Hc'; clear Hc'
          have Hd' := Lib.hid (Hd.out.grows hG)
          clear Hd
          have Hd := Hd'; clear Hd'
          have He' := Lib.hid (He.out.grows hG)
          clear He
          have He := He'; clear He'
          have Hg' := Lib.hid (Hg.out.grows hG)
          clear Hg
          have Hg := Hg'; clear Hg'
          have Hs' := Lib.hid (Grows.rowK Hs.out hG)
          clear Hs
          have Hs := Hs'; clear Hs'
          have Hfit' := Lib.hid (Grows.rowK Hfit.out hG)
          clear Hfit
          have Hfit := Hfit'; clear Hfit'
          have Hnone' := Lib.hid (Grows.rowK Hnone.out hG)
          clear Hnone
          have Hnone := Hnone'; clear Hnone'
          have Hbad' := Lib.hid (Grows.rowK Hbad.out hG)
          clear Hbad
          have Hbad := Hbad'; clear Hbad'
          have HG' := Lib.hid (HG.out.trans hG)
          clear HG hG s0 s1 s2 s3 s4 s18 hsz hqq
          have HG := HG'; clear HG'
          clear F_0 F_1 F_2 F_3 F_4 F_5
          go_upto_region 32 with (fail)
          refine abs_worldK (fun W => Grows v14 W ∧ FldAt W (v14.heap.size) 1 2 0 0 false) ⟨(by repeat' (first | (with_reducible exact Grows.refl _) | (with_reducible refine Grows.alloc ?_ _) | (with_reducible refine Grows.drew ?_) | (with_reducible refine Grows.ext ?_ _ _))), ⟨by simp [go_sem], by simp [go_sem], by simp [go_sem], by simp [go_sem], by simp [go_sem], by simp [go_sem]⟩⟩ ?_
          rintro v15 ⟨hG, qO⟩
          obtain ⟨NO, hN⟩ : ∃ n, n = v14.heap.size := ⟨_, rfl⟩
          rw [← hN] at qO
          (try simp only [← hN])
          clear hN
          have HF' := Lib.hid (HF.out.grows hG)
          clear HF
          have HF := HF'; clear HF'
          have Ha' := Lib.hid (Ha.out.grows hG)
          clear Ha
          have Ha := Ha'; clear Ha'
          have Hb' := Lib.hid (Hb.out.grows hG)
          clear Hb
          have Hb := Hb'; clear Hb'
          have Hc' := Lib.hid (Hc.out.grows hG)
          clear Hc
          have Hc := Hc'; clear Hc'
          have Hd' := Lib.hid (Hd.out.grows hG)
          clear Hd
          have Hd := Hd'; clear Hd'
          have He' := Lib.hid (He.out.grows hG)
          clear He
          have He := He'; clear He'
          have Hg' := Lib.hid (Hg.out.grows hG)
          clear Hg
          have Hg := Hg'; clear Hg'
          have Hs' := Lib.hid (Grows.rowK Hs.out hG)
          clear Hs
          have Hs := Hs'; clear Hs'
          have Hfit' := Lib.hid (Grows.rowK Hfit.out hG)
          clear Hfit
          have Hfit := Hfit'; clear Hfit'
          have Hnone' := Lib.hid (Grows.rowK Hnone.out hG)
          clear Hnone
          have Hnone := Hnone'; clear Hnone'
          have Hbad' := Lib.hid (Grows.rowK Hbad.out hG)
          clear Hbad
          have Hbad := Hbad'; clear Hbad'
          have HO := Lib.hid qO
          clear qO
          have HG' := Lib.hid (HG.out.trans hG)
          clear HG hG
          have HG := HG'; clear HG'
          obtain ⟨O_0, O_1, O_2, O_3, O_4, O_5⟩ := HO.out
          try simp only [ext_ext]
          first | (refine wp_region_fill_ext 7 8 (.cells #[.int .i64 0, .int .i64 0, .bool false] 27) (O' := ?ob33a) (by kernel_rfl) (by kernel_rfl) rfl rfl rfl rfl rfl (fun _ _ => by simp [go_sem]) ?_) | (refine wp_region_fill 7 8 (.cells #[.int .i64 0, .int .i64 0, .bool false] 27) (O' := ?ob33b) (by kernel_rfl) (by kernel_rfl) rfl rfl rfl rfl rfl (fun _ _ => by simp [go_sem]) ?_)
          rotate_left
          repeat (first | (refine xWalk_make rfl ?_) | (refine xWalk_op (by decide) (by decide) (fun K hK => ?_); go_simp; (try go_ints); first | (refine hK _ ?_; clear hK K) | (apply Exists.intro; refine ⟨fun xg => ?_, hK _ ?_⟩; (first | (go_at_call 43; exact lat_any _ _ _) | (go_at_call 20; exact kI _)); clear hK K)) | (refine xWalk_fill (by decide) rfl ?_ ?_; (intro xf yf; simp [go_sem, newPtr]; rfl)))
          refine xWalk_nil ?_
          intro x33 y33
          simp only [newPtr, ext_size]
          simp only [Act.put, List.setIfInBounds_toArray, List.set_cons_zero, List.set_cons_succ]
          go_upto_region 33 with (fail)
          refine abs_worldK (fun W => Grows v15 W ∧ CvAt W (v15.heap.size + x33.h.size) 0 1 false) ⟨(by repeat' (first | (with_reducible exact Grows.refl _) | (with_reducible refine Grows.alloc ?_ _) | (with_reducible refine Grows.drew ?_) | (with_reducible refine Grows.ext ?_ _ _))), ⟨by simp [go_sem], by simp [go_sem], by simp [go_sem], by simp [go_sem]⟩⟩ ?_
          rintro v16 ⟨hG, qx⟩
          obtain ⟨Nx, hN⟩ : ∃ n, n = v15.heap.size + x33.h.size := ⟨_, rfl⟩
          rw [← hN] at qx
          (try simp only [← hN])
          clear hN
          have HF' := Lib.hid (HF.out.grows hG)
          clear HF
          have HF := HF'; clear HF'
          have Ha' := Lib.hid (Ha.out.grows hG)
          clear Ha
          have Ha := Ha'; clear Ha'
          have Hb' := Lib.hid (Hb.out.grows hG)
          clear Hb
          have Hb := Hb'; clear Hb'
          have Hc' := Lib.hid (Hc.out.grows hG)
          clear Hc
          have Hc := Hc'; clear Hc'
          have Hd' := Lib.hid (Hd.out.grows hG)
          clear Hd
          have Hd := Hd'; clear Hd'
          have He' := Lib.hid (He.out.grows hG)
          clear He
          have He := He'; clear He'
          have Hg' := Lib.hid (Hg.out.grows hG)
          clear Hg
          have Hg := Hg'; clear Hg'
          have Hs' := Lib.hid (Grows.rowK Hs.out hG)
          clear Hs
          have Hs := Hs'; clear Hs'
          have Hfit' := Lib.hid (Grows.rowK Hfit.out hG)
          clear Hfit
          have Hfit := Hfit'; clear Hfit'
          have Hnone' := Lib.hid (Grows.rowK Hnone.out hG)
          clear Hnone
          have Hnone := Hnone'; clear Hnone'
          have Hbad' := Lib.hid (Grows.rowK Hbad.out hG)
          clear Hbad
          have Hbad := Hbad'; clear Hbad'
          have HO' := Lib.hid (HO.out.grows hG)
          clear HO
          have HO := HO'; clear HO'
          have Hx := Lib.hid qx
          clear qx
          have HG' := Lib.hid (HG.out.trans hG)
          clear HG hG
          have HG := HG'; clear HG'
          clear O_0 O_1 O_2 O_3 O_4 O_5
          obtain ⟨O_0, O_1, O_2, O_3, O_4, O_5⟩ := HO.out
          try simp only [ext_ext]
          first | (refine wp_region_fill_ext 7 8 (.cells #[.int .i64 0, .int .i64 0, .bool false] 27) (O' := ?ob34a) (by kernel_rfl) (by kernel_rfl) rfl rfl rfl rfl rfl (fun _ _ => by simp [go_sem]) ?_) | (refine wp_region_fill 7 8 (.cells #[.int .i64 0, .int .i64 0, .bool false] 27) (O' := ?ob34b) (by kernel_rfl) (by kernel_rfl) rfl rfl rfl rfl rfl (fun _ _ => by simp [go_sem]) ?_)
          rotate_left
          repeat (first | (refine xWalk_make rfl ?_) | (refine xWalk_op (by decide) (by decide) (fun K hK => ?_); go_simp; (try go_ints); first | (refine hK _ ?_; clear hK K) | (apply Exists.intro; refine ⟨fun xg => ?_, hK _ ?_⟩; (first | (go_at_call 43; exact lat_any _ _ _) | (go_at_call 21; exact kR _)); clear hK K)) | (refine xWalk_fill (by decide) rfl ?_ ?_; (intro xf yf; simp [go_sem, newPtr]; rfl)))
          refine xWalk_nil ?_
          intro x34 y34
          simp only [newPtr, ext_size]
          simp only [Act.put, List.setIfInBounds_toArray, List.set_cons_zero, List.set_cons_succ]
          go_upto_region 34 with (fail)
          refine abs_worldK (fun W => Grows v16 W ∧ CvAt W (v16.heap.size + x34.h.size) 0 1 false) ⟨(by repeat' (first | (with_reducible exact Grows.refl _) | (with_reducible refine Grows.alloc ?_ _) | (with_reducible refine Grows.drew ?_) | (with_reducible refine Grows.ext ?_ _ _))), ⟨by simp [go_sem], by simp [go_sem], by simp [go_sem], by simp [go_sem]⟩⟩ ?_
          rintro v17 ⟨hG, qy⟩
          obtain ⟨Ny, hN⟩ : ∃ n, n = v16.heap.size + x34.h.size := ⟨_, rfl⟩
          rw [← hN] at qy
          (try simp only [← hN])
          clear hN
          have HF' := Lib.hid (HF.out.grows hG)
          clear HF
          have HF := HF'; clear HF'
          have Ha' := Lib.hid (Ha.out.grows hG)
          clear Ha
          have Ha := Ha'; clear Ha'
          have Hb' := Lib.hid (Hb.out.grows hG)
          clear Hb
          have Hb := Hb'; clear Hb'
          have Hc' := Lib.hid (Hc.out.grows hG)
          clear Hc
          have Hc := Hc'; clear Hc'
          have Hd' := Lib.hid (Hd.out.grows hG)
          clear Hd
          have Hd := Hd'; clear Hd'
          have He' := Lib.hid (He.out.grows hG)
          clear He
          have He := He'; clear He'
          have Hg' := Lib.hid (Hg.out.grows hG)
          clear Hg
          have Hg := Hg'; clear Hg'
          have Hs' := Lib.hid (Grows.rowK Hs.out hG)
          clear Hs
          have Hs := Hs'; clear Hs'
          have Hfit' := Lib.hid (Grows.rowK Hfit.out hG)
          clear Hfit
          have Hfit := Hfit'; clear Hfit'
          have Hnone' := Lib.hid (Grows.rowK Hnone.out hG)
          clear Hnone
          have Hnone := Hnone'; clear Hnone'
          have Hbad' := Lib.hid (Grows.rowK Hbad.out hG)
          clear Hbad
          have Hbad := Hbad'; clear Hbad'
          have HO' := Lib.hid (HO.out.grows hG)
          clear HO
          have HO := HO'; clear HO'
          have Hx' := Lib.hid (Hx.out.grows hG)
          clear Hx
          have Hx := Hx'; clear Hx'
          have Hy := Lib.hid qy
          clear qy
          have HG' := Lib.hid (HG.out.trans hG)
          clear HG hG
          have HG := HG'; clear HG'
          clear O_0 O_1 O_2 O_3 O_4 O_5
          obtain ⟨x_0, x_1, x_2, x_3⟩ := Hx.out
          obtain ⟨y_0, y_1, y_2, y_3⟩ := Hy.out
          go_wp2_with (first | (go_at_call 23; (with_reducible refine (kN1 _).mono ?_); rintro e w' ⟨rfl, rfl⟩) | (go_at_call 23; (with_reducible refine (kN2 _).mono ?_); rintro e w' ⟨rfl, rfl⟩) | (go_at_call 22; (with_reducible refine (works_true _).mono ?_); rintro e w' ⟨rfl, h37, d37, rfl⟩) | (go_at_call 27; (with_reducible refine (is_yes _ _ _ _ _ _ (by decide) _).mono ?_); rintro e w' ⟨rfl, h38, d38, rfl⟩) | (go_at_call 44; (with_reducible refine (lmargins_yes _ _ _ _ _ (by unfold In64; omega) (by unfold In64; omega) (by unfold In64; omega) (by decide) _).mono ?_); rintro e w' ⟨rfl, h39, d39, rfl⟩))
          go_returns
          exact ⟨rfl, HG.out.trans (by repeat' (first | (with_reducible exact Grows.refl _) | (with_reducible refine Grows.alloc ?_ _) | (with_reducible refine Grows.drew ?_) | (with_reducible refine Grows.ext ?_ _ _)))⟩
end Go.Proofs.Ytepbknpdhiaepaa
