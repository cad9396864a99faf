/-
  Walk: simple. Plain laws: values; a row of integers of the call's own. Walk: values. Walks: front. Walks: front with a colour.
-/
import Derived.Test.YtobbphkfdhjmdaaDoorRows
import Derived.Test.YtobbphkfdhjmdaaDoorM1
import Derived.WalkKit
import Derived.WalkSpells
import Derived.WalkLawsBesides
import Derived.Handy
import Derived.Laws.Rows
import Derived.Great.BuildSlice
import Derived.Deep.Heap
import Derived.IntWalk
import Derived.Lib.Hide
import Derived.Outline
import Derived.Deep.Light
import Derived.Deep.LoopGhost
import Derived.BigGuardPart
import Derived.BigQuiet
import Derived.Deep.QuietTactic
import Derived.Deep.RegionHeld3
import Derived.Deep.DeepCutAuto
import Derived.OwnWalk
import Derived.Maps.AppendAt
namespace Go.Proofs.YtobbphkfdhjmdaaDoor
open Go.RowKit

theorem abs_worldM {P : Program} {c : Code} {Q : Exit → Act → World → Prop} {a : Act} {w : World} (F : World → Prop) (hF : F w) (h : ∀ W, F W → c.wp P Q a W) : c.wp P Q a w := h w hF
theorem lk5 {w : World} {B : Nat} {f : Int → Option Pen} (h : MapP w B f) (hf : f 5 = some (pen 1 8)) : (Instr.lookup 115 (.map (some B)) (.int .i64 5) false).run Tryd.prog w = .ok (.agg #[.int .i64 39, .int .i64 1, .int .i64 8, .int .i64 0, .int .i64 0, .string ⟨#[]⟩]) w := by
  have h1 := run_lookP (P := Tryd.prog) Tryd.underlying115 Tryd.underlying3 zero26 h 5 false
  rw [hf] at h1
  exact h1
set_option maxRecDepth 100000 in
set_option maxHeartbeats 4000000 in
theorem simple_any (w : World) (hg : GL w) : Calls Tryd.prog 53 #[] w (fun e w' => ∃ B, e = .returned (.map (some B)) ∧ MapP w' B simpleV ∧ Grows w w') := by
  have HG := Lib.hid hg
  have hmm := @run_makeMap Tryd.prog
  have hM : MapP (w.alloc (.map #[] 0)) w.heap.size (fun _ => none) := MapP.empty (heap_alloc_new _ _)
  clear hg
  go_enter Tryd.func53, Tryd.ntmps53
  go_upto_region 2 with (first | (go_at_call 30; (with_reducible refine (pen30_any _ _ _).mono ?_); rintro e w' ⟨rfl, h27, d27, rfl⟩) | ((with_reducible refine wpList_updQ (o := ⟨_, .insert 115 (.tmp 5) (.const (.int .i64 0)) (.tmp 6), _, _, _, _⟩) _ ?_ (.tmp 5) (.const (.int .i64 0)) (.tmp 6) ?_ Tryd.underlying115 Tryd.underlying3 _ _ (hM.grows ?_) (0) (0) (0) (0) (0) ?_ ?_ ?_ ?_); exact rfl; exact (Or.inr rfl); exact (by repeat' (first | (with_reducible exact Grows.refl _) | (with_reducible refine Grows.alloc ?_ _) | (with_reducible refine Grows.drew ?_) | (with_reducible refine Grows.ext ?_ _ _))); exact rfl; exact rfl; exact rfl; intro o1 hM1; clear hM; have hM := hM1; clear hM1) | ((with_reducible refine wpList_updQ (o := ⟨_, .insert 115 (.tmp 5) (.const (.int .i64 4)) (.tmp 7), _, _, _, _⟩) _ ?_ (.tmp 5) (.const (.int .i64 4)) (.tmp 7) ?_ Tryd.underlying115 Tryd.underlying3 _ _ (hM.grows ?_) (4) (3) (1) (0) (0) ?_ ?_ ?_ ?_); exact rfl; exact (Or.inr rfl); exact (by repeat' (first | (with_reducible exact Grows.refl _) | (with_reducible refine Grows.alloc ?_ _) | (with_reducible refine Grows.drew ?_) | (with_reducible refine Grows.ext ?_ _ _))); exact rfl; exact rfl; exact rfl; intro o1 hM1; clear hM; have hM := hM1; clear hM1) | ((with_reducible refine wpList_updQ (o := ⟨_, .insert 115 (.tmp 5) (.const (.int .i64 21)) (.tmp 8), _, _, _, _⟩) _ ?_ (.tmp 5) (.const (.int .i64 21)) (.tmp 8) ?_ Tryd.underlying115 Tryd.underlying3 _ _ (hM.grows ?_) (21) (3) (2) (0) (0) ?_ ?_ ?_ ?_); exact rfl; exact (Or.inr rfl); exact (by repeat' (first | (with_reducible exact Grows.refl _) | (with_reducible refine Grows.alloc ?_ _) | (with_reducible refine Grows.drew ?_) | (with_reducible refine Grows.ext ?_ _ _))); exact rfl; exact rfl; exact rfl; intro o1 hM1; clear hM; have hM := hM1; clear hM1) | ((with_reducible refine wpList_updQ (o := ⟨_, .insert 115 (.tmp 5) (.const (.int .i64 24)) (.tmp 9), _, _, _, _⟩) _ ?_ (.tmp 5) (.const (.int .i64 24)) (.tmp 9) ?_ Tryd.underlying115 Tryd.underlying3 _ _ (hM.grows ?_) (24) (3) (0) (0) (0) ?_ ?_ ?_ ?_); exact rfl; exact (Or.inr rfl); exact (by repeat' (first | (with_reducible exact Grows.refl _) | (with_reducible refine Grows.alloc ?_ _) | (with_reducible refine Grows.drew ?_) | (with_reducible refine Grows.ext ?_ _ _))); exact rfl; exact rfl; exact rfl; intro o1 hM1; clear hM; have hM := hM1; clear hM1) | ((with_reducible refine wpList_updQ (o := ⟨_, .insert 115 (.tmp 5) (.const (.int .i64 39)) (.tmp 10), _, _, _, _⟩) _ ?_ (.tmp 5) (.const (.int .i64 39)) (.tmp 10) ?_ Tryd.underlying115 Tryd.underlying3 _ _ (hM.grows ?_) (39) (4) (0) (0) (0) ?_ ?_ ?_ ?_); exact rfl; exact (Or.inr rfl); exact (by repeat' (first | (with_reducible exact Grows.refl _) | (with_reducible refine Grows.alloc ?_ _) | (with_reducible refine Grows.drew ?_) | (with_reducible refine Grows.ext ?_ _ _))); exact rfl; exact rfl; exact rfl; intro o1 hM1; clear hM; have hM := hM1; clear hM1) | ((with_reducible refine wpList_updQ (o := ⟨_, .insert 115 (.tmp 5) (.const (.int .i64 49)) (.tmp 11), _, _, _, _⟩) _ ?_ (.tmp 5) (.const (.int .i64 49)) (.tmp 11) ?_ Tryd.underlying115 Tryd.underlying3 _ _ (hM.grows ?_) (49) (5) (0) (0) (0) ?_ ?_ ?_ ?_); exact rfl; exact (Or.inr rfl); exact (by repeat' (first | (with_reducible exact Grows.refl _) | (with_reducible refine Grows.alloc ?_ _) | (with_reducible refine Grows.drew ?_) | (with_reducible refine Grows.ext ?_ _ _))); exact rfl; exact rfl; exact rfl; intro o1 hM1; clear hM; have hM := hM1; clear hM1) | ((with_reducible refine wpList_updQ (o := ⟨_, .insert 115 (.tmp 5) (.const (.int .i64 59)) (.tmp 12), _, _, _, _⟩) _ ?_ (.tmp 5) (.const (.int .i64 59)) (.tmp 12) ?_ Tryd.underlying115 Tryd.underlying3 _ _ (hM.grows ?_) (59) (6) (0) (0) (0) ?_ ?_ ?_ ?_); exact rfl; exact (Or.inr rfl); exact (by repeat' (first | (with_reducible exact Grows.refl _) | (with_reducible refine Grows.alloc ?_ _) | (with_reducible refine Grows.drew ?_) | (with_reducible refine Grows.ext ?_ _ _))); exact rfl; exact rfl; exact rfl; intro o1 hM1; clear hM; have hM := hM1; clear hM1))
  refine abs_worldM (fun W => Grows w W ∧ MapP W w.heap.size simF0) ⟨(by repeat' (first | (with_reducible exact Grows.refl _) | (with_reducible refine Grows.setMap ?_ (Nat.le_refl _) _) | (with_reducible refine Grows.alloc ?_ _) | (with_reducible refine Grows.ext ?_ _ _))), hM⟩ ?_
  clear hM
  rintro w1 ⟨hW, hM⟩
  obtain ⟨B, hB⟩ : ∃ n, n = w.heap.size := ⟨_, rfl⟩
  have hB0 : w.heap.size ≤ B := by omega
  rw [← hB] at hM
  simp only [← hB]
  clear hB
  obtain ⟨gt, gf, h0⟩ := HG.out.grows hW
  have H0 := Lib.hid h0
  have HM := Lib.hid hM
  have HW := Lib.hid hW
  clear h0 hM hW
  go_wp2_with ((with_reducible refine wpList_load_row (o := ⟨_, .load 113 (.global 0), _, _, _, _⟩) ?_ 113 (.global 0) ?_ 0 ?_ gt attrsA gf _ ?_ Tryd.underlying113 ?_ ?_ ?_); exact rfl; exact rfl; exact rfl; exact H0.out; exact rfl; exact info113)
  go_loopw [15] (fun i wr' => ∃ (wv : World) (k : Nat), wv = wr' ∧ k ≤ 8 ∧ i = .int .i64 k ∧ Grows w wv ∧ MapP wv B (simF1 k)) (fun i _ => 8 - (intOf i).toNat)
  case atStart => exact ⟨_, 0, rfl, by omega, rfl, HW.out, HM.out⟩
  case round =>
    obtain ⟨wa, k, rfl, hk, rfl, hGa, hM⟩ := hrel
    have HGa := Lib.hid hGa
    clear hGa
    by_cases hk9 : k < 8
    · have e1 : decide ((k : Int) < 8) = true := by simp; omega
      have hix := ix113 k hk9
      have hlt := hM.lt
      have hne : ¬ wa.heap.size = B := by omega
      have HMs := Lib.hid (show simF1 (k + 1) = updP (updP (simF1 k) (setA k) (pen 1 (bitA k))) (clrA k) (pen 2 (bitA k)) from rfl)
      generalize simF1 k = f0 at *
      generalize setA k = sk at *
      generalize clrA k = ck at *
      generalize bitA k = bk at *
      go_upto_region 5 with (fail)
      refine wp_region_grow_tail 6 (by kernel_rfl) (by kernel_rfl) ?_
      simp only [List.take_succ_cons, List.take_zero, List.drop_succ_cons, List.drop_zero]
      repeat (first | go_big_quiet_step ((first | (rename_i xg; go_at_call 30; (with_reducible refine (pen30_any _ _ _).mono ?_); rintro _ _ ⟨rfl, h0, d0, rfl⟩; exact ⟨rfl, Gr.mk (xg.h ++ h0) d0, by simp only [ext_ext, Gr.h_mk, Gr.d_mk]⟩))) | quiet_step ((first | (rename_i xg; go_at_call 30; (with_reducible refine (pen30_any _ _ _).mono ?_); rintro _ _ ⟨rfl, h0, d0, rfl⟩; exact ⟨rfl, Gr.mk (xg.h ++ h0) d0, by simp only [ext_ext, Gr.h_mk, Gr.d_mk, Array.append_assoc]⟩))))
      refine wpQuiet_nil ?_
      rintro _ ⟨g28, rfl⟩
      go_upto_region 6 with (first | ((with_reducible refine wpList_updQ (o := ⟨_, .mapUpdate 115 (.tmp 18) (.tmp 20) (.tmp 23), _, _, _, _⟩) _ ?_ (.tmp 18) (.tmp 20) (.tmp 23) ?_ Tryd.underlying115 Tryd.underlying3 _ _ (hM.grows ?_) (sk) (1) (bk) (0) (0) ?_ ?_ ?_ ?_); exact rfl; exact (Or.inl rfl); exact (by repeat' (first | (with_reducible exact Grows.refl _) | (with_reducible refine Grows.alloc ?_ _) | (with_reducible refine Grows.drew ?_) | (with_reducible refine Grows.ext ?_ _ _))); exact rfl; exact rfl; exact rfl; intro o1 hM1; clear hM; have hM := hM1; clear hM1))
      refine wp_region_grow_tail 6 (by kernel_rfl) (by kernel_rfl) ?_
      simp only [List.take_succ_cons, List.take_zero, List.drop_succ_cons, List.drop_zero]
      repeat (first | go_big_quiet_step ((first | (rename_i xg; go_at_call 30; (with_reducible refine (pen30_any _ _ _).mono ?_); rintro _ _ ⟨rfl, h0, d0, rfl⟩; exact ⟨rfl, Gr.mk (xg.h ++ h0) d0, by simp only [ext_ext, Gr.h_mk, Gr.d_mk]⟩))) | quiet_step ((first | (rename_i xg; go_at_call 30; (with_reducible refine (pen30_any _ _ _).mono ?_); rintro _ _ ⟨rfl, h0, d0, rfl⟩; exact ⟨rfl, Gr.mk (xg.h ++ h0) d0, by simp only [ext_ext, Gr.h_mk, Gr.d_mk, Array.append_assoc]⟩))))
      refine wpQuiet_nil ?_
      rintro _ ⟨g29, rfl⟩
      go_wp2_with (first | ((with_reducible refine wpList_updQ (o := ⟨_, .mapUpdate 115 (.tmp 24) (.tmp 26) (.tmp 29), _, _, _, _⟩) _ ?_ (.tmp 24) (.tmp 26) (.tmp 29) ?_ Tryd.underlying115 Tryd.underlying3 _ _ (hM.grows ?_) (ck) (2) (bk) (0) (0) ?_ ?_ ?_ ?_); exact rfl; exact (Or.inl rfl); exact (by repeat' (first | (with_reducible exact Grows.refl _) | (with_reducible refine Grows.alloc ?_ _) | (with_reducible refine Grows.drew ?_) | (with_reducible refine Grows.ext ?_ _ _))); exact rfl; exact rfl; exact rfl; intro o1 hM1; clear hM; have hM := hM1; clear hM1))
      go_roundw
      case rel => exact ⟨_, k + 1, rfl, by omega, by go_num, (by repeat' (first | (with_reducible exact HGa.out) | (with_reducible exact Grows.refl _) | (with_reducible refine Grows.setMap ?_ hB0 _) | (with_reducible refine Grows.alloc ?_ _) | (with_reducible refine Grows.drew ?_) | (with_reducible refine Grows.ext ?_ _ _))), by rw [HMs.out]; exact hM⟩
      case measure => simp [intOf]; omega
    · obtain rfl : k = 8 := by omega
      have e1 : decide (((8 : Nat) : Int) < 8) = false := by decide
      clear hk hk9
      go_upto_region 8 with fail
      have hf5 := simF1_5
      have HMs := Lib.hid (show simF2 = updP (updP (simF1 8) 6 (pen 1 8)) 22 (pen 2 3) from rfl)
      generalize simF1 8 = f1 at *
      have hlk := lk5 hM hf5
      refine wp_region_held_drew (S := fun w' => (Instr.lookup 115 (.map (some B)) (.int .i64 5) false).run Tryd.prog w' = .ok (.agg #[.int .i64 39, .int .i64 1, .int .i64 8, .int .i64 0, .int .i64 0, .string ⟨#[]⟩]) w') (by kernel_rfl) ?_ (fun hHeld => ?_)
      · (exact lk5 (hM.grows (by first | exact (Grows.refl _).drew | exact Grows.refl _)) hf5)
      refine wpAnyH_take (i := 0) (v := ?v33_0) rfl (by kernel_rfl) (by kernel_rfl) (by kernel_rfl) (fun _ _ _ h => h) (Or.inl ⟨by kernel_rfl, ?y33_0⟩) (by assumption) ?r33_0
      case y33_0 => ((intro w hSw; (try dsimp only at hSw); go_simp); (try with_reducible rfl))
      try simp only [Act.put, List.getElem_toArray, List.getElem_cons_zero, List.setIfInBounds_toArray, List.set_cons_zero, List.set_cons_succ]
      refine wpAnyH_take (i := 1) (v := ?v34_1) rfl (by kernel_rfl) (by kernel_rfl) (by kernel_rfl) (fun _ _ _ h => h) (Or.inl ⟨by kernel_rfl, ?y34_1⟩) (by assumption) ?r34_1
      case y34_1 => ((intro w hSw; (try dsimp only at hSw); go_simp); (try with_reducible rfl))
      try simp only [Act.put, List.getElem_toArray, List.getElem_cons_succ, List.getElem_cons_zero, List.setIfInBounds_toArray, List.set_cons_zero, List.set_cons_succ]
      refine wpAnyH_take (i := 2) (v := ?v35_2) rfl (by kernel_rfl) (by kernel_rfl) (by kernel_rfl) (fun _ _ _ h => h) (Or.inl ⟨by kernel_rfl, ?y35_2⟩) (by assumption) ?r35_2
      case y35_2 => ((intro w hSw; (try dsimp only at hSw); go_simp); (try with_reducible rfl))
      try simp only [Act.put, List.getElem_toArray, List.getElem_cons_succ, List.getElem_cons_zero, List.setIfInBounds_toArray, List.set_cons_zero, List.set_cons_succ]
      refine wpAnyH_take (i := 3) (v := ?v36_3) rfl (by kernel_rfl) (by kernel_rfl) (by kernel_rfl) (fun _ _ _ h => h) (Or.inl ⟨by kernel_rfl, ?y36_3⟩) (by assumption) ?r36_3
      case y36_3 => ((intro w hSw; (try dsimp only at hSw); go_simp); (try with_reducible rfl))
      try simp only [Act.put, List.getElem_toArray, List.getElem_cons_succ, List.getElem_cons_zero, List.setIfInBounds_toArray, List.set_cons_zero, List.set_cons_succ]
      refine wpAnyH_ready (rs := [4]) (by kernel_rfl) (by simp) ?_
      refine AllReadyH.cons rfl (fun K hK => ?_) AllReadyH.nil
      simp only [List.getElem_toArray, List.getElem_cons_succ, List.getElem_cons_zero]
      go_simp
      (go_at_call 30; (with_reducible refine (pen30_any _ _ _).mono ?_); rintro e w' ⟨rfl, h30, d30, rfl⟩)
      refine hK.out _ _ ?_ ?_
      · ((try dsimp only); exact lk5 (hM.grows ((Grows.refl wa).ext h30 d30)) hf5)
      clear hK K hHeld
      intro hHeld
      try simp only [Act.put, List.getElem_toArray, List.getElem_cons_succ, List.getElem_cons_zero, List.setIfInBounds_toArray, List.set_cons_zero, List.set_cons_succ]
      refine wpAnyH_ready (rs := [5]) (by kernel_rfl) (by simp) ?_
      refine AllReadyH.cons rfl (fun K hK => ?_) AllReadyH.nil
      simp only [List.getElem_toArray, List.getElem_cons_succ, List.getElem_cons_zero]
      obtain ⟨o5, r5, hM5⟩ := run_updP (P := Tryd.prog) Tryd.underlying115 Tryd.underlying3 (hM.grows ((Grows.refl wa).ext h30 d30)) 6 (pen 1 8)
      have r5' : (Instr.mapUpdate 115 (.map (some B)) (.int .i64 6) (.agg #[.int .i64 39, .int .i64 1, .int .i64 8, .int .i64 0, .int .i64 0, .string ⟨#[]⟩])).run Tryd.prog (ext wa h30 d30) = .ok () (setMap (ext wa h30 d30) B o5) := r5
      clear r5
      go_simp
      skip
      refine hK.out _ _ ?_ ?_
      · ((try dsimp only); exact lk5 hM5 (by simp [updP, hf5]))
      clear hK K hHeld
      intro hHeld
      try simp only [Act.put, List.getElem_toArray, List.getElem_cons_succ, List.getElem_cons_zero, List.setIfInBounds_toArray, List.set_cons_zero, List.set_cons_succ]
      refine wpAnyH_ready (rs := [6]) (by kernel_rfl) (by simp) ?_
      refine AllReadyH.cons rfl (fun K hK => ?_) AllReadyH.nil
      simp only [List.getElem_toArray, List.getElem_cons_succ, List.getElem_cons_zero]
      obtain ⟨o6, r6, hM6⟩ := run_updP (P := Tryd.prog) Tryd.underlying115 Tryd.underlying3 hM5 22 (pen 2 3)
      have r6' : (Instr.mapUpdate 115 (.map (some B)) (.int .i64 22) (.agg #[.int .i64 39, .int .i64 2, .int .i64 3, .int .i64 0, .int .i64 0, .string ⟨#[]⟩])).run Tryd.prog (setMap (ext wa h30 d30) B o5) = .ok () (setMap (setMap (ext wa h30 d30) B o5) B o6) := r6
      clear r6
      go_simp
      skip
      refine hK.out _ _ ?_ ?_
      · ((try dsimp only); exact lk5 hM6 (by simp [updP, hf5]))
      clear hK K hHeld
      intro hHeld
      try simp only [Act.put, List.getElem_toArray, List.getElem_cons_succ, List.getElem_cons_zero, List.setIfInBounds_toArray, List.set_cons_zero, List.set_cons_succ]
      refine wpAnyH_done (by kernel_rfl) ?_ _
      clear hHeld
      go_wp2_with fail
      refine abs_worldM (fun W => Grows w W ∧ MapP W B simF2) ⟨(by repeat' (first | (with_reducible exact HGa.out) | (with_reducible exact Grows.refl _) | (with_reducible refine Grows.setMap ?_ hB0 _) | (with_reducible refine Grows.alloc ?_ _) | (with_reducible refine Grows.drew ?_) | (with_reducible refine Grows.ext ?_ _ _))), by rw [HMs.out]; exact hM6⟩ ?_
      clear hM hM5 hM6 r5' r6' hlk hf5 HMs HGa HM HW H0 e1
      rintro w2 ⟨hW, hM⟩
      have HM := Lib.hid hM
      have HW := Lib.hid hW
      clear hM hW
      go_loopw [36] (fun i wr' => ∃ (wv : World) (n : Nat), wv = wr' ∧ n ≤ 8 ∧ i = .int .i64 n ∧ Grows w wv ∧ MapP wv B (simF3 n)) (fun i _ => 8 - (intOf i).toNat)
      case atStart => exact ⟨_, 0, rfl, by omega, rfl, HW.out, HM.out⟩
      case round =>
        obtain ⟨wb, n, rfl, hn, rfl, hGa, hM⟩ := hrel
        have HGa := Lib.hid hGa
        clear hGa
        by_cases hn9 : n < 8
        · have e1 : decide ((n : Int) < 8) = true := by simp; omega
          have e2 : (0 : Int) ≤ (n : Int) := by omega
          have e3 : (n : Int) < 8 := by omega
          have HMs := Lib.hid (show simF3 (n + 1) = updP (updP (updP (updP (simF3 n) (30 + n) (colored 4 1 n)) (90 + n) (colored 4 1 (8 + n))) (40 + n) (colored 5 1 n)) (100 + n) (colored 5 1 (8 + n)) from rfl)
          generalize simF3 n = f0 at *
          go_upto_region 13 with (first | (go_at_call 85; (with_reducible refine (col85_any _ _ _ _).mono ?_); rintro e w' ⟨rfl, h31, d31, rfl⟩) | ((with_reducible refine wpList_entryP (o := ⟨_, .mapEntry 115 (.tmp 39) (.tmp 41), _, _, _, _⟩) _ ?_ (.tmp 39) (.tmp 41) ?_ Tryd.underlying115 Tryd.underlying3 zero26 _ _ (hM.grows ?_) (30 + n) ?_ ?_ ?_); exact rfl; exact rfl; exact (by repeat' (first | (with_reducible exact Grows.refl _) | (with_reducible refine Grows.alloc ?_ _) | (with_reducible refine Grows.drew ?_) | (with_reducible refine Grows.ext ?_ _ _))); exact rfl; exact rfl; intro o1 v1 b1 hE) | ((with_reducible refine wpList_storeQ (mt := 115) (o := ⟨_, .entryStore 115 (.tmp 39) (.tmp 51) (.tmp 46), _, _, _, _⟩) _ ?_ (.tmp 39) (.tmp 51) (.tmp 46) ?_ _ _ _ _ hE (4) (0) (1) (n) ?_ ?_ ?_ ?_); exact rfl; exact rfl; exact rfl; exact rfl; exact rfl; intro o1 hM1; clear hM hE; have hM := hM1; clear hM1) | ((with_reducible refine wpList_updQ (o := ⟨_, .mapUpdate 115 (.tmp 42) (.tmp 44) (.tmp 49), _, _, _, _⟩) _ ?_ (.tmp 42) (.tmp 44) (.tmp 49) ?_ Tryd.underlying115 Tryd.underlying3 _ _ (hM.grows ?_) (90 + n) (4) (0) (1) (8 + n) ?_ ?_ ?_ ?_); exact rfl; exact (Or.inl rfl); exact (by repeat' (first | (with_reducible exact Grows.refl _) | (with_reducible refine Grows.alloc ?_ _) | (with_reducible refine Grows.drew ?_) | (with_reducible refine Grows.ext ?_ _ _))); exact rfl; exact rfl; exact rfl; intro o1 hM1; clear hM; have hM := hM1; clear hM1))
          go_wp2_with (first | (go_at_call 85; (with_reducible refine (col85_any _ _ _ _).mono ?_); rintro e w' ⟨rfl, h31, d31, rfl⟩) | ((with_reducible refine wpList_entryP (o := ⟨_, .mapEntry 115 (.tmp 52) (.tmp 54), _, _, _, _⟩) _ ?_ (.tmp 52) (.tmp 54) ?_ Tryd.underlying115 Tryd.underlying3 zero26 _ _ (hM.grows ?_) (40 + n) ?_ ?_ ?_); exact rfl; exact rfl; exact (by repeat' (first | (with_reducible exact Grows.refl _) | (with_reducible refine Grows.alloc ?_ _) | (with_reducible refine Grows.drew ?_) | (with_reducible refine Grows.ext ?_ _ _))); exact rfl; exact rfl; intro o1 v1 b1 hE) | ((with_reducible refine wpList_storeQ (mt := 115) (o := ⟨_, .entryStore 115 (.tmp 52) (.tmp 64) (.tmp 59), _, _, _, _⟩) _ ?_ (.tmp 52) (.tmp 64) (.tmp 59) ?_ _ _ _ _ hE (5) (0) (1) (n) ?_ ?_ ?_ ?_); exact rfl; exact rfl; exact rfl; exact rfl; exact rfl; intro o1 hM1; clear hM hE; have hM := hM1; clear hM1) | ((with_reducible refine wpList_updQ (o := ⟨_, .mapUpdate 115 (.tmp 55) (.tmp 57) (.tmp 62), _, _, _, _⟩) _ ?_ (.tmp 55) (.tmp 57) (.tmp 62) ?_ Tryd.underlying115 Tryd.underlying3 _ _ (hM.grows ?_) (100 + n) (5) (0) (1) (8 + n) ?_ ?_ ?_ ?_); exact rfl; exact (Or.inl rfl); exact (by repeat' (first | (with_reducible exact Grows.refl _) | (with_reducible refine Grows.alloc ?_ _) | (with_reducible refine Grows.drew ?_) | (with_reducible refine Grows.ext ?_ _ _))); exact rfl; exact rfl; exact rfl; intro o1 hM1; clear hM; have hM := hM1; clear hM1))
          go_roundw
          case rel => exact ⟨_, n + 1, rfl, by omega, by go_num, (by repeat' (first | (with_reducible exact HGa.out) | (with_reducible exact Grows.refl _) | (with_reducible refine Grows.setMap ?_ hB0 _) | (with_reducible refine Grows.alloc ?_ _) | (with_reducible refine Grows.drew ?_) | (with_reducible refine Grows.ext ?_ _ _))), by rw [HMs.out]; exact hM⟩
          case measure => simp [intOf]; omega
        · obtain rfl : n = 8 := by omega
          have e1 : decide (((8 : Nat) : Int) < 8) = false := by decide
          clear hn hn9
          go_wp2_with fail
          go_ret
          exact ⟨B, rfl, simF_eq ▸ hM, HGa.out⟩
end Go.Proofs.YtobbphkfdhjmdaaDoor

namespace Go.Proofs.YtobbphkfdhjmdaaDoor
open Go.RowKit

theorem rget {r : List (List Int)} {k : Nat} (hk : k < r.length) : r.take (k + 1) = r.take k ++ [r[k]?.getD []] := by
  rw [List.take_succ_eq_append_getElem hk]
  simp [hk]
theorem values_append {r : List (List Int)} (h : ∀ p ∈ r, p.length = 1) (t : List (List Int)) : valuesL (r ++ t) = valuesL r ++ valuesL t := by
  induction r with
  | nil => rfl
  | cons p r ih =>
    obtain ⟨x, rfl⟩ := List.length_eq_one_iff.1 (h p (by simp))
    simp only [List.cons_append, values_cons_one]
    rw [ih fun q hq => h q (by simp [hq])]
theorem values_len {r : List (List Int)} (h : ∀ p ∈ r, p.length = 1) : (valuesL r).length = r.length := by
  induction r with
  | nil => rfl
  | cons p r ih =>
    obtain ⟨x, rfl⟩ := List.length_eq_one_iff.1 (h p (by simp))
    simp only [values_cons_one, List.length_cons]
    rw [ih fun q hq => h q (by simp [hq])]
theorem values_stop {r : List (List Int)} {k : Nat} (h : ∀ p ∈ r.take k, p.length = 1) (hs : r.length ≤ k ∨ (r[k]?.getD []).length ≠ 1) : valuesL r = valuesL (r.take k) := by
  have e : r = r.take k ++ r.drop k := (List.take_append_drop k r).symm
  have e2 : valuesL (r.drop k) = [] := by
    rcases hs with hs | hs
    · rw [List.drop_eq_nil_of_le hs]; rfl
    · by_cases hk : k < r.length
      · rw [List.drop_eq_getElem_cons hk]
        exact values_not (by simpa [hk] using hs) _
      · rw [List.drop_eq_nil_of_le (by omega)]; rfl
  rw [e, values_append h, e2, List.append_nil]
  simp
theorem values_succ {r : List (List Int)} {k : Nat} (hk : k < r.length) (h : ∀ p ∈ r.take k, p.length = 1) (h1 : (r[k]?.getD []).length = 1) : valuesL (r.take (k + 1)) = valuesL (r.take k) ++ [max 0 ((r[k]?.getD [])[0]?.getD 0)] := by
  rw [rget hk, values_append h]
  obtain ⟨x, hx⟩ := List.length_eq_one_iff.1 h1
  rw [hx]
  rfl
theorem ones_succ {r : List (List Int)} {k : Nat} (hk : k < r.length) (h : ∀ p ∈ r.take k, p.length = 1) (h1 : (r[k]?.getD []).length = 1) : ∀ p ∈ r.take (k + 1), p.length = 1 := by
  intro p hp
  rw [rget hk] at hp
  rcases List.mem_append.1 hp with hp | hp
  · exact h p hp
  · rw [List.mem_singleton.1 hp]; exact h1
theorem infoInt : (Tryd.prog.info? 3).map (fun i => (i.zero, i.size, i.bytes)) = some (some (.int .i64 0), 1, 8) := by kernel_rfl
theorem ints_of_own {w : World} {base : Nat} {v : Value} {l : List Int} {n : Nat} (h : w.ownsRow base 3 1 v n (l.map (.int .i64 ·))) : IntsAt w v l := by
  obtain ⟨hl, h | ⟨g, cap, cur, rfl, hb, hh, hc, hm, hs, ht⟩⟩ := h
  · obtain ⟨rfl, h2⟩ := h
    subst h2
    obtain rfl : l = [] := by simpa using hl
    exact IntsAt.nil w
  · have hln : n = l.length := by simpa using hl.symm
    subst hln
    refine ⟨_, cap, rfl, hc, fun _ => ⟨g, 0, rfl, (Array.getElem?_eq_some_iff.1 hh).1, fun i hi => ?_⟩⟩
    have h2 : (cur.toList.take (l.map (Value.int .i64 ·)).length)[i]? = (l.map (Value.int .i64 ·))[i]? := by rw [List.length_map, ← ht, Nat.mul_one]
    rw [List.getElem?_take, if_pos (by simpa using hi)] at h2
    rw [Nat.zero_add, cell_of_row w g i cur 3 (0, 0) hh]
    simp at h2
    rw [h2]
    simp [hi]
/-- A slice of integers that lies beyond a block. -/
def IntsFrom (base : Nat) (w : World) (v : Value) (l : List Int) : Prop := ∃ a cap, v = .slice a l.length cap ∧ l.length ≤ cap ∧ (l ≠ [] → ∃ b off, a = some ⟨b, off, none⟩ ∧ base ≤ b ∧ b < w.heap.size ∧ ∀ i, i < l.length → w.cell? ⟨b, off + i, none⟩ = some (.int .i64 (l[i]?.getD 0)))
theorem IntsFrom.at_ {base : Nat} {w : World} {v : Value} {l : List Int} (h : IntsFrom base w v l) : IntsAt w v l := by
  obtain ⟨a, cap, h1, h2, h3⟩ := h
  refine ⟨a, cap, h1, h2, fun hl => ?_⟩
  obtain ⟨b, off, h4, _, h5, h6⟩ := h3 hl
  exact ⟨b, off, h4, h5, h6⟩
theorem from_of_own {w : World} {base : Nat} {v : Value} {l : List Int} {n : Nat} (h : w.ownsRow base 3 1 v n (l.map (.int .i64 ·))) : IntsFrom base w v l := by
  have hI := ints_of_own h
  obtain ⟨hl, h | ⟨g, cap, cur, rfl, hb, hh, hc, hm, hs, ht⟩⟩ := h
  · obtain ⟨rfl, h2⟩ := h
    subst h2
    obtain rfl : l = [] := by simpa using hl
    exact ⟨none, 0, rfl, Nat.le_refl _, fun h => absurd rfl h⟩
  · obtain ⟨a, cap', h1, h2, h3⟩ := hI
    refine ⟨a, cap', h1, h2, fun hne => ?_⟩
    obtain ⟨b, off, rfl, h5, h6⟩ := h3 hne
    refine ⟨b, off, rfl, ?_, h5, h6⟩
    injection h1 with e1 _ _
    injection e1 with e1
    injection e1 with e1 _ _
    omega
end Go.Proofs.YtobbphkfdhjmdaaDoor

namespace Go.Proofs.YtobbphkfdhjmdaaDoor
open Go.RowKit

theorem cell_two_new (w : World) (o : Obj) (v : Value) (t : TypeId) : ∀ j u, [v][j]? = some u → ((w.alloc o).alloc (.cells #[v] t)).cell? ((⟨w.heap.size + 1, 0, none⟩ : Addr).add j) = some u := by
  have h := cell_one_new (w.alloc o) v t
  rwa [World.size_alloc] at h
set_option maxRecDepth 100000 in
set_option maxHeartbeats 4000000 in
theorem values_any (v : Value) (r : List (List Int)) (hl : r.length ≤ 1000) (w : World) (h : RowAt w v r) : Calls Tryd.prog 86 #[v] w (fun e w' => ∃ x, e = .returned x ∧ IntsFrom w.heap.size w' x (valuesL r) ∧ Grows w w') := by
  obtain ⟨a, cap, rfl, -, hin⟩ := h
  obtain ⟨i0, hi, hz0, hz1, hz2⟩ := info_parts infoInt
  have Hin := Lib.hid hin
  clear hin
  go_enter Tryd.func86, Tryd.ntmps86
  go_wp2
  go_loopw [2, 7] (fun x i wr => ∃ (k : Nat), k ≤ r.length ∧ i = .int .i64 k ∧ (∀ p ∈ r.take k, p.length = 1) ∧ wr.ownsRow w.heap.size 3 1 x k ((valuesL (r.take k)).map (.int .i64 ·)) ∧ Below w.heap.size w wr) (fun _ i _ => r.length - (intOf i).toNat)
  case atStart => exact ⟨0, Nat.zero_le _, rfl, by simp, World.ownsRow_nil _ _ _ _, Below.refl _ _⟩
  case round =>
    obtain ⟨k, hk, rfl, hone, hown, hb⟩ := hrel
    have hsz := hb.size
    have Hone := Lib.hid hone
    clear hone
    by_cases hlt : k < r.length
    · obtain ⟨b, off, rfl, hbl, hc⟩ := Hin.out (by rintro rfl; simp at hlt)
      obtain ⟨s, hs, a2, cap2, rfl, -, hin2⟩ := hc k hlt
      have c0 := (hb.cell (p := ⟨b, off + k, none⟩) hbl).trans hs
      have Hin2 := Lib.hid hin2
      have hbw : b < wr.heap.size := by omega
      clear hc hs hin2 Hin
      by_cases h1 : (r[k]?.getD []).length = 1
      · have Hvs := Lib.hid (values_succ hlt Hone.out h1)
        have Hos := Lib.hid (ones_succ hlt Hone.out h1)
        generalize r[k]?.getD [] = p at *
        obtain ⟨x, rfl⟩ := List.length_eq_one_iff.1 h1
        obtain ⟨b2, off2, rfl, hb2, hc2⟩ := Hin2.out (by simp)
        have c1 := (hb.cell (p := ⟨b2, off2 + 0, none⟩) hb2).trans (hc2 0 (by simp))
        simp only [Nat.add_zero, List.length_singleton, List.getElem?_cons_zero, Option.getD_some] at c0 c1 Hvs
        have hbw2 : b2 < wr.heap.size := by omega
        clear Hin2 hc2 h1
        by_cases hx : 0 < x
        · have hmx : max 0 x = x := by omega
          go_wp2_with (at_builtin; refine wpList_append_own _ rfl (.tmp 15) (.tmp 21) 36 rfl w.heap.size 3 i0 (.int .i64 0) 1 8 Tryd.underlying36 hi hz0 hz1 hz2 rfl (by decide) _ _ _ rfl ((hown.alloc _).alloc _) ⟨wr.heap.size + 1, 0, none⟩ 1 1 [.int .i64 (x)] rfl rfl (cell_two_new _ _ _ _) (by simp [Value.oneCell']) (by unfold maxLen; omega) (by omega) (by simp; omega) ?_; intro v' w1 hown' hgrow _)
          have hb1 := ((hb.alloc hsz (.cells #[.slice (some ⟨b2, off2, none⟩) 1 cap2] 38)).alloc (by simp; omega) (.cells #[.int .i64 (x)] 3)).grown hgrow (by simp; omega) (fun q e => (hown.lt q e).1)
          clear hgrow hown hb
          go_wp2
          go_roundw
          case rel => exact ⟨k + 1, by omega, by go_num, Hos.out, by rw [Hvs.out, List.map_append, List.map_singleton, hmx]; exact hown', hb1⟩
          case measure => simp [intOf]; omega
        · have hx' : x ≤ 0 := by omega
          have hmx : max 0 x = 0 := by omega
          go_wp2_with (at_builtin; refine wpList_append_own _ rfl (.tmp 15) (.tmp 21) 36 rfl w.heap.size 3 i0 (.int .i64 0) 1 8 Tryd.underlying36 hi hz0 hz1 hz2 rfl (by decide) _ _ _ rfl ((hown.alloc _).alloc _) ⟨wr.heap.size + 1, 0, none⟩ 1 1 [.int .i64 (0)] rfl rfl (cell_two_new _ _ _ _) (by simp [Value.oneCell']) (by unfold maxLen; omega) (by omega) (by simp; omega) ?_; intro v' w1 hown' hgrow _)
          have hb1 := ((hb.alloc hsz (.cells #[.slice (some ⟨b2, off2, none⟩) 1 cap2] 38)).alloc (by simp; omega) (.cells #[.int .i64 (0)] 3)).grown hgrow (by simp; omega) (fun q e => (hown.lt q e).1)
          clear hgrow hown hb
          go_wp2
          go_roundw
          case rel => exact ⟨k + 1, by omega, by go_num, Hos.out, by rw [Hvs.out, List.map_append, List.map_singleton, hmx]; exact hown', hb1⟩
          case measure => simp [intOf]; omega
      · have e1 : (((r[k]?.getD []).length : Int) != 1) = true := by simpa using (show ¬ (((r[k]?.getD []).length : Int) = 1) by omega)
        have Hst := Lib.hid (values_stop Hone.out (Or.inr h1))
        generalize (r[k]?.getD []).length = m at *
        clear h1 Hin2
        go_wp2
        go_ret
        refine ⟨_, rfl, ?_, Grows.of_below (hb.alloc hsz _)⟩
        rw [Hst.out]
        exact from_of_own (hown.alloc _)
    · have Hst := Lib.hid (values_stop Hone.out (Or.inl (by omega)))
      go_wp2
      go_ret
      refine ⟨_, rfl, ?_, Grows.of_below hb⟩
      rw [Hst.out]
      exact from_of_own hown
end Go.Proofs.YtobbphkfdhjmdaaDoor

namespace Go.Proofs.YtobbphkfdhjmdaaDoor
open Go.RowKit

theorem values_cons (v : Value) (r : List (List Int)) (hl : r.length ≤ 1000) (L : Nat) (hL : (valuesL r).length = L) (h0 : 0 < L) (w : World) (h : RowAt w v r) : Calls Tryd.prog 86 #[v] w (fun e w' => ∃ b off cap, e = .returned (.slice (some ⟨b, off, none⟩) L cap) ∧ L ≤ cap ∧ w.heap.size ≤ b ∧ b < w'.heap.size ∧ (∀ i, i < L → w'.cell? ⟨b, off + i, none⟩ = some (.int .i64 ((valuesL r)[i]?.getD 0))) ∧ Grows w w') := by
  subst hL
  refine (values_any v r hl w h).mono ?_
  rintro e w' ⟨x, rfl, ⟨a, cap, rfl, hc, hin⟩, g⟩
  obtain ⟨b, off, rfl, h1, h2, h3⟩ := hin (by intro e; rw [e] at h0; simp at h0)
  exact ⟨b, off, cap, rfl, hc, h1, h2, h3, g⟩
theorem values_none (v : Value) (r : List (List Int)) (hl : r.length ≤ 1000) (hV : valuesL r = []) (w : World) (h : RowAt w v r) : Calls Tryd.prog 86 #[v] w (fun e w' => ∃ a cap, e = .returned (.slice a 0 cap) ∧ Grows w w') := by
  refine (values_any v r hl w h).mono ?_
  rintro e w' ⟨x, rfl, ⟨a, cap, rfl, -, -⟩, g⟩
  exact ⟨a, cap, by rw [hV]; rfl, g⟩
theorem look_val (k : Int) : ((simpleV k).map pv).getD (.agg #[.int .i64 0, .int .i64 0, .int .i64 0, .int .i64 0, .int .i64 0, .string ⟨#[]⟩]) = .agg #[.int .i64 (kd (simpleP k).2), .int .i64 (simpleP k).1.n, .int .i64 (simpleP k).1.m, .int .i64 (simpleP k).1.ck, .int .i64 (simpleP k).1.cn, .string ⟨#[]⟩] ∧ (simpleV k).isSome = (simpleP k).2 := by
  unfold simpleP
  cases simpleV k with
  | none => exact ⟨rfl, rfl⟩
  | some q => exact ⟨rfl, rfl⟩
theorem wpList_simple {ops : Array Oper} {rest : List Oper} {o : Oper} {a : Act} {Q : Exit → Act → World → Prop} (w : World) (hg : o.guard = none) (m x : Operand) (hop : o.op = Op.lookup 115 m x true) (r : Nat) (h : MapP w r simpleV) (k : Int)
    (h1 : a.eval m = .map (some r)) (h2 : a.eval x = .int .i64 k) (hK : wpList Tryd.prog ops Q rest (a.put o.dst (.tuple #[.agg #[.int .i64 (kd (simpleP k).2), .int .i64 (simpleP k).1.n, .int .i64 (simpleP k).1.m, .int .i64 (simpleP k).1.ck, .int .i64 (simpleP k).1.cn, .string ⟨#[]⟩], .bool (simpleP k).2])) w) : wpList Tryd.prog ops Q (o :: rest) a w := by
  refine wpList_plain hg fun K' hK' => ?_
  have hrun := run_lookP (P := Tryd.prog) Tryd.underlying115 Tryd.underlying3 zero26 h k true
  rw [(look_val k).1, (look_val k).2] at hrun
  unfold Oper.wp
  simp [execOp, hop, h1, h2, hrun, Result.andThen]
  exact hK' _ _ hK
set_option maxRecDepth 100000 in
set_option maxHeartbeats 4000000 in
theorem front_parts_w (v : Value) (p : List Int) (t : List (List Int)) (B : Nat) (w : World) (h : RowAt w v (p :: t)) (hp : 2 ≤ p.length) (hp6 : p.length ≤ 1000) (hl : t.length ≤ 900) : Calls Tryd.prog 54 #[v, .map (some B)] w (Ret (.tuple #[.agg #[.int .i64 (kdP p), .int .i64 (partsP p).1.n, .int .i64 (partsP p).1.m, .int .i64 (partsP p).1.ck, .int .i64 (partsP p).1.cn, .string ⟨#[]⟩], .bool (partsP p).2, .int .i64 1]) w) := by
  have HV := Lib.hid (values_none v (p :: t) (by simp; omega) (values_not (by omega) t))
  have H := Lib.hid h
  obtain ⟨a, cap, rfl, -, hin⟩ := h
  obtain ⟨b, off, rfl, hb, hc⟩ := hin (by simp)
  obtain ⟨s, hs, hI⟩ := hc 0 (by simp)
  have HI := Lib.hid hI
  obtain ⟨a2, cap2, rfl, -, -⟩ := hI
  simp only [Nat.add_zero, List.getElem?_cons_zero, Option.getD_some, List.length_cons] at *
  have HP := Lib.hid fun W hW => parts_any p (.slice a2 p.length cap2) W hW hp (by omega)
  clear hin hc
  generalize partsP p = q at *
  generalize kdP p = kq at *
  go_enter Tryd.func54, Tryd.ntmps54
  go_wp2_with (first | (go_at_call 86; (with_reducible refine (HV.out _ (H.out.grows (by repeat' (first | (with_reducible exact Grows.refl _) | (with_reducible refine Grows.alloc ?_ _) | (with_reducible refine Grows.drew ?_) | (with_reducible refine Grows.ext ?_ _ _))))).mono ?_); rintro e w' ⟨a3, cap3, rfl, h1, d1, rfl⟩) | (go_at_call 87; (with_reducible refine (HP.out _ (HI.out.grows (by repeat' (first | (with_reducible exact Grows.refl _) | (with_reducible refine Grows.alloc ?_ _) | (with_reducible refine Grows.drew ?_) | (with_reducible refine Grows.ext ?_ _ _))))).mono ?_); rintro e w' ⟨rfl, h32, d32, rfl⟩))
  go_returns
  exact ⟨rfl, (by repeat' (first | (with_reducible exact Grows.refl _) | (with_reducible refine Grows.alloc ?_ _) | (with_reducible refine Grows.drew ?_) | (with_reducible refine Grows.ext ?_ _ _)))⟩
set_option maxRecDepth 100000 in
set_option maxHeartbeats 4000000 in
theorem front_simple_a (v : Value) (r : List (List Int)) (B : Nat) (w : World) (h : RowAt w v r) (hl : r.length ≤ 1000) (hM : MapP w B simpleV) (L : Nat) (hL : (valuesL r).length = L) (v0 v1 : Int) (hv0 : (valuesL r)[0]?.getD 0 = v0) (_hv1 : (valuesL r)[1]?.getD 0 = v1) (h0 : 0 < L) (hB : ofB v0 = false) : Calls Tryd.prog 54 #[v, .map (some B)] w (Ret (.tuple #[.agg #[.int .i64 (kd (simpleP v0).2), .int .i64 (simpleP v0).1.n, .int .i64 (simpleP v0).1.m, .int .i64 (simpleP v0).1.ck, .int .i64 (simpleP v0).1.cn, .string ⟨#[]⟩], .bool (simpleP v0).2, .int .i64 1]) w) := by
  have HV := Lib.hid (values_cons v r hl L hL (by omega))
  have HO := Lib.hid (of_any v0)
  have HM := Lib.hid hM
  have H := Lib.hid h
  have e0 : ((L : Int) == 0) = false := by simp; omega
  rw [hB] at HO
  clear hl hL hM h
  generalize valuesL r = V at *
  generalize ofN v0 = on at *
  generalize hob : ofB v0 = ob at *
  go_enter Tryd.func54, Tryd.ntmps54
  go_wp2_with (first | (go_at_call 86; (with_reducible refine (HV.out _ (H.out.grows (by repeat' (first | (with_reducible exact Grows.refl _) | (with_reducible refine Grows.alloc ?_ _) | (with_reducible refine Grows.drew ?_) | (with_reducible refine Grows.ext ?_ _ _))))).mono ?_); rintro e w' ⟨b3, off3, cap3, rfl, hcap, hb1, hb2, hc3, h1, d1, rfl⟩; have c0 := hc3 0 (by omega); rw [hv0] at c0; simp only [Nat.add_zero] at c0; clear hc3) | (go_at_call 88; (with_reducible refine (HO.out _).mono ?_); rintro e w' ⟨rfl, rfl⟩) | ((with_reducible refine wpList_simple (o := ⟨_, .lookup 115 (.tmp 76) (.tmp 79) true, _, _, _, _⟩) _ ?_ (.tmp 76) (.tmp 79) ?_ B (HM.out.grows ?_) v0 ?_ ?_ ?_); exact rfl; exact rfl; exact (by repeat' (first | (with_reducible exact Grows.refl _) | (with_reducible refine Grows.alloc ?_ _) | (with_reducible refine Grows.drew ?_) | (with_reducible refine Grows.ext ?_ _ _))); exact rfl; exact rfl))
  go_returns
  exact ⟨rfl, (by repeat' (first | (with_reducible exact Grows.refl _) | (with_reducible refine Grows.alloc ?_ _) | (with_reducible refine Grows.drew ?_) | (with_reducible refine Grows.ext ?_ _ _)))⟩
set_option maxRecDepth 100000 in
set_option maxHeartbeats 4000000 in
theorem front_simple_b (v : Value) (r : List (List Int)) (B : Nat) (w : World) (h : RowAt w v r) (hl : r.length ≤ 1000) (hM : MapP w B simpleV) (L : Nat) (hL : (valuesL r).length = L) (v0 v1 : Int) (hv0 : (valuesL r)[0]?.getD 0 = v0) (_hv1 : (valuesL r)[1]?.getD 0 = v1) (h1 : L = 1) (hB : ofB v0 = true) : Calls Tryd.prog 54 #[v, .map (some B)] w (Ret (.tuple #[.agg #[.int .i64 (kd (simpleP v0).2), .int .i64 (simpleP v0).1.n, .int .i64 (simpleP v0).1.m, .int .i64 (simpleP v0).1.ck, .int .i64 (simpleP v0).1.cn, .string ⟨#[]⟩], .bool (simpleP v0).2, .int .i64 1]) w) := by
  have HV := Lib.hid (values_cons v r hl L hL (by omega))
  have HO := Lib.hid (of_any v0)
  have HM := Lib.hid hM
  have H := Lib.hid h
  subst h1
  rw [hB] at HO
  clear hl hL hM h
  generalize valuesL r = V at *
  generalize ofN v0 = on at *
  generalize hob : ofB v0 = ob at *
  go_enter Tryd.func54, Tryd.ntmps54
  go_wp2_with (first | (go_at_call 86; (with_reducible refine (HV.out _ (H.out.grows (by repeat' (first | (with_reducible exact Grows.refl _) | (with_reducible refine Grows.alloc ?_ _) | (with_reducible refine Grows.drew ?_) | (with_reducible refine Grows.ext ?_ _ _))))).mono ?_); rintro e w' ⟨b3, off3, cap3, rfl, hcap, hb1, hb2, hc3, h1, d1, rfl⟩; have c0 := hc3 0 (by omega); rw [hv0] at c0; simp only [Nat.add_zero] at c0; clear hc3) | (go_at_call 88; (with_reducible refine (HO.out _).mono ?_); rintro e w' ⟨rfl, rfl⟩) | ((with_reducible refine wpList_simple (o := ⟨_, .lookup 115 (.tmp 76) (.tmp 79) true, _, _, _, _⟩) _ ?_ (.tmp 76) (.tmp 79) ?_ B (HM.out.grows ?_) v0 ?_ ?_ ?_); exact rfl; exact rfl; exact (by repeat' (first | (with_reducible exact Grows.refl _) | (with_reducible refine Grows.alloc ?_ _) | (with_reducible refine Grows.drew ?_) | (with_reducible refine Grows.ext ?_ _ _))); exact rfl; exact rfl))
  go_returns
  exact ⟨rfl, (by repeat' (first | (with_reducible exact Grows.refl _) | (with_reducible refine Grows.alloc ?_ _) | (with_reducible refine Grows.drew ?_) | (with_reducible refine Grows.ext ?_ _ _)))⟩
set_option maxRecDepth 100000 in
set_option maxHeartbeats 4000000 in
theorem front_simple_c (v : Value) (r : List (List Int)) (B : Nat) (w : World) (h : RowAt w v r) (hl : r.length ≤ 1000) (hM : MapP w B simpleV) (L : Nat) (hL : (valuesL r).length = L) (v0 v1 : Int) (hv0 : (valuesL r)[0]?.getD 0 = v0) (hv1 : (valuesL r)[1]?.getD 0 = v1) (h1 : 1 < L) (hB : ofB v0 = true) (h5 : v1 ≠ 5) (h2 : v1 ≠ 2) : Calls Tryd.prog 54 #[v, .map (some B)] w (Ret (.tuple #[.agg #[.int .i64 (kd (simpleP v0).2), .int .i64 (simpleP v0).1.n, .int .i64 (simpleP v0).1.m, .int .i64 (simpleP v0).1.ck, .int .i64 (simpleP v0).1.cn, .string ⟨#[]⟩], .bool (simpleP v0).2, .int .i64 1]) w) := by
  have HV := Lib.hid (values_cons v r hl L hL (by omega))
  have HO := Lib.hid (of_any v0)
  have HM := Lib.hid hM
  have H := Lib.hid h
  have e0 : ((L : Int) == 0) = false := by simp; omega
  have e1 : decide ((L : Int) > 1) = true := by simp; omega
  have e5 : (v1 == 5) = false := by simpa using h5
  have e2 : (v1 == 2) = false := by simpa using h2
  rw [hB] at HO
  clear hl hL hM h
  generalize valuesL r = V at *
  generalize ofN v0 = on at *
  generalize hob : ofB v0 = ob at *
  go_enter Tryd.func54, Tryd.ntmps54
  go_wp2_with (first | (go_at_call 86; (with_reducible refine (HV.out _ (H.out.grows (by repeat' (first | (with_reducible exact Grows.refl _) | (with_reducible refine Grows.alloc ?_ _) | (with_reducible refine Grows.drew ?_) | (with_reducible refine Grows.ext ?_ _ _))))).mono ?_); rintro e w' ⟨b3, off3, cap3, rfl, hcap, hb1, hb2, hc3, h1, d1, rfl⟩; have c0 := hc3 0 (by omega); have c1 := hc3 1 (by omega); rw [hv0] at c0; rw [hv1] at c1; simp only [Nat.add_zero] at c0; clear hc3) | (go_at_call 88; (with_reducible refine (HO.out _).mono ?_); rintro e w' ⟨rfl, rfl⟩) | ((with_reducible refine wpList_simple (o := ⟨_, .lookup 115 (.tmp 76) (.tmp 79) true, _, _, _, _⟩) _ ?_ (.tmp 76) (.tmp 79) ?_ B (HM.out.grows ?_) v0 ?_ ?_ ?_); exact rfl; exact rfl; exact (by repeat' (first | (with_reducible exact Grows.refl _) | (with_reducible refine Grows.alloc ?_ _) | (with_reducible refine Grows.drew ?_) | (with_reducible refine Grows.ext ?_ _ _))); exact rfl; exact rfl))
  go_returns
  exact ⟨rfl, (by repeat' (first | (with_reducible exact Grows.refl _) | (with_reducible refine Grows.alloc ?_ _) | (with_reducible refine Grows.drew ?_) | (with_reducible refine Grows.ext ?_ _ _)))⟩
set_option maxRecDepth 100000 in
set_option maxHeartbeats 4000000 in
theorem front_few_5 (v : Value) (r : List (List Int)) (B : Nat) (w : World) (h : RowAt w v r) (hl : r.length ≤ 1000) (L : Nat) (hL : (valuesL r).length = L) (v0 : Int) (hv0 : (valuesL r)[0]?.getD 0 = v0) (hv1 : (valuesL r)[1]?.getD 0 = 5) (h1 : 1 < L) (hB : ofB v0 = true) (h3 : L < 3) : Calls Tryd.prog 54 #[v, .map (some B)] w (Ret (.tuple #[.agg #[.int .i64 0, .int .i64 0, .int .i64 0, .int .i64 0, .int .i64 0, .string ⟨#[]⟩], .bool false, .int .i64 ((min 3 r.length : Nat) : Int)]) w) := by
  have HV := Lib.hid (values_cons v r hl L hL (by omega))
  have HO := Lib.hid (of_any v0)
  have H := Lib.hid h
  obtain ⟨a, cap, rfl, -, -⟩ := h
  have e0 : ((L : Int) == 0) = false := by simp; omega
  have e1 : decide ((L : Int) > 1) = true := by simp; omega
  have e3 : decide ((L : Int) ≥ 3) = false := by simp; omega
  rw [hB] at HO
  clear hL
  generalize valuesL r = V at *
  generalize ofN v0 = on at *
  generalize hob : ofB v0 = ob at *
  by_cases hr : r.length < 3
  · have hm : min 3 r.length = r.length := by omega
    rw [hm]
    generalize r.length = n at *
    go_enter Tryd.func54, Tryd.ntmps54
    go_wp2_with (first | (go_at_call 86; (with_reducible refine (HV.out _ (H.out.grows (by repeat' (first | (with_reducible exact Grows.refl _) | (with_reducible refine Grows.alloc ?_ _) | (with_reducible refine Grows.drew ?_) | (with_reducible refine Grows.ext ?_ _ _))))).mono ?_); rintro e w' ⟨b3, off3, cap3, rfl, hcap, hb1, hb2, hc3, h1, d1, rfl⟩; have c0 := hc3 0 (by omega); have c1 := hc3 1 (by omega); rw [hv0] at c0; rw [hv1] at c1; simp only [Nat.add_zero] at c0; clear hc3) | (go_at_call 88; (with_reducible refine (HO.out _).mono ?_); rintro e w' ⟨rfl, rfl⟩))
    go_returns
    exact ⟨rfl, (by repeat' (first | (with_reducible exact Grows.refl _) | (with_reducible refine Grows.alloc ?_ _) | (with_reducible refine Grows.drew ?_) | (with_reducible refine Grows.ext ?_ _ _)))⟩
  · have hm : min 3 r.length = 3 := by omega
    rw [hm]
    generalize r.length = n at *
    go_enter Tryd.func54, Tryd.ntmps54
    go_wp2_with (first | (go_at_call 86; (with_reducible refine (HV.out _ (H.out.grows (by repeat' (first | (with_reducible exact Grows.refl _) | (with_reducible refine Grows.alloc ?_ _) | (with_reducible refine Grows.drew ?_) | (with_reducible refine Grows.ext ?_ _ _))))).mono ?_); rintro e w' ⟨b3, off3, cap3, rfl, hcap, hb1, hb2, hc3, h1, d1, rfl⟩; have c0 := hc3 0 (by omega); have c1 := hc3 1 (by omega); rw [hv0] at c0; rw [hv1] at c1; simp only [Nat.add_zero] at c0; clear hc3) | (go_at_call 88; (with_reducible refine (HO.out _).mono ?_); rintro e w' ⟨rfl, rfl⟩))
    go_returns
    exact ⟨rfl, (by repeat' (first | (with_reducible exact Grows.refl _) | (with_reducible refine Grows.alloc ?_ _) | (with_reducible refine Grows.drew ?_) | (with_reducible refine Grows.ext ?_ _ _)))⟩
set_option maxRecDepth 100000 in
set_option maxHeartbeats 4000000 in
theorem front_few_2 (v : Value) (r : List (List Int)) (B : Nat) (w : World) (h : RowAt w v r) (hl : r.length ≤ 1000) (L : Nat) (hL : (valuesL r).length = L) (v0 : Int) (hv0 : (valuesL r)[0]?.getD 0 = v0) (hv1 : (valuesL r)[1]?.getD 0 = 2) (h1 : 1 < L) (hB : ofB v0 = true) (h3 : L < 5) : Calls Tryd.prog 54 #[v, .map (some B)] w (Ret (.tuple #[.agg #[.int .i64 0, .int .i64 0, .int .i64 0, .int .i64 0, .int .i64 0, .string ⟨#[]⟩], .bool false, .int .i64 ((min 5 r.length : Nat) : Int)]) w) := by
  have HV := Lib.hid (values_cons v r hl L hL (by omega))
  have HO := Lib.hid (of_any v0)
  have H := Lib.hid h
  obtain ⟨a, cap, rfl, -, -⟩ := h
  have e0 : ((L : Int) == 0) = false := by simp; omega
  have e1 : decide ((L : Int) > 1) = true := by simp; omega
  have e3 : decide ((L : Int) ≥ 5) = false := by simp; omega
  rw [hB] at HO
  clear hL
  generalize valuesL r = V at *
  generalize ofN v0 = on at *
  generalize hob : ofB v0 = ob at *
  by_cases hr : r.length < 5
  · have hm : min 5 r.length = r.length := by omega
    rw [hm]
    generalize r.length = n at *
    go_enter Tryd.func54, Tryd.ntmps54
    go_wp2_with (first | (go_at_call 86; (with_reducible refine (HV.out _ (H.out.grows (by repeat' (first | (with_reducible exact Grows.refl _) | (with_reducible refine Grows.alloc ?_ _) | (with_reducible refine Grows.drew ?_) | (with_reducible refine Grows.ext ?_ _ _))))).mono ?_); rintro e w' ⟨b3, off3, cap3, rfl, hcap, hb1, hb2, hc3, h1, d1, rfl⟩; have c0 := hc3 0 (by omega); have c1 := hc3 1 (by omega); rw [hv0] at c0; rw [hv1] at c1; simp only [Nat.add_zero] at c0; clear hc3) | (go_at_call 88; (with_reducible refine (HO.out _).mono ?_); rintro e w' ⟨rfl, rfl⟩))
    go_returns
    exact ⟨rfl, (by repeat' (first | (with_reducible exact Grows.refl _) | (with_reducible refine Grows.alloc ?_ _) | (with_reducible refine Grows.drew ?_) | (with_reducible refine Grows.ext ?_ _ _)))⟩
  · have hm : min 5 r.length = 5 := by omega
    rw [hm]
    generalize r.length = n at *
    go_enter Tryd.func54, Tryd.ntmps54
    go_wp2_with (first | (go_at_call 86; (with_reducible refine (HV.out _ (H.out.grows (by repeat' (first | (with_reducible exact Grows.refl _) | (with_reducible refine Grows.alloc ?_ _) | (with_reducible refine Grows.drew ?_) | (with_reducible refine Grows.ext ?_ _ _))))).mono ?_); rintro e w' ⟨b3, off3, cap3, rfl, hcap, hb1, hb2, hc3, h1, d1, rfl⟩; have c0 := hc3 0 (by omega); have c1 := hc3 1 (by omega); rw [hv0] at c0; rw [hv1] at c1; simp only [Nat.add_zero] at c0; clear hc3) | (go_at_call 88; (with_reducible refine (HO.out _).mono ?_); rintro e w' ⟨rfl, rfl⟩))
    go_returns
    exact ⟨rfl, (by repeat' (first | (with_reducible exact Grows.refl _) | (with_reducible refine Grows.alloc ?_ _) | (with_reducible refine Grows.drew ?_) | (with_reducible refine Grows.ext ?_ _ _)))⟩
end Go.Proofs.YtobbphkfdhjmdaaDoor

namespace Go.Proofs.YtobbphkfdhjmdaaDoor
open Go.RowKit

theorem ints1 {w : World} {b off cap : Nat} {x : Int} (hc : 1 ≤ cap) (hb : b < w.heap.size) (h0 : w.cell? ⟨b, off, none⟩ = some (.int .i64 x)) : IntsAt w (.slice (some ⟨b, off, none⟩) 1 cap) [x] :=
  ⟨_, cap, rfl, hc, fun _ => ⟨b, off, rfl, hb, fun i hi => by
    obtain rfl : i = 0 := by simpa using hi
    exact h0⟩⟩
theorem ints3 {w : World} {b off cap : Nat} {x y z : Int} (hc : 3 ≤ cap) (hb : b < w.heap.size) (h0 : w.cell? ⟨b, off, none⟩ = some (.int .i64 x)) (h1 : w.cell? ⟨b, off + 1, none⟩ = some (.int .i64 y)) (h2 : w.cell? ⟨b, off + 2, none⟩ = some (.int .i64 z)) : IntsAt w (.slice (some ⟨b, off, none⟩) 3 cap) [x, y, z] :=
  ⟨_, cap, rfl, hc, fun _ => ⟨b, off, rfl, hb, fun i hi => by
    have : i = 0 ∨ i = 1 ∨ i = 2 := by simp at hi; omega
    rcases this with rfl | rfl | rfl
    · exact h0
    · exact h1
    · exact h2⟩⟩
theorem Grows.rowK {w w' : World} {n : Nat} {o : Obj} (h : w.heap[n]? = some o) (g : Grows w w') : w'.heap[n]? = some o := (g.below.block n (Array.getElem?_eq_some_iff.1 h).1).trans h
theorem Grows.setRowK {w w' : World} (g : Grows w w') {n : Nat} (hn : w.heap.size ≤ n) (cs : Array Value) : Grows w (w'.setRow n cs) := by
  have b := g.below
  exact Grows.of_below ⟨b.os, b.tape, b.output, by rw [setRow_size]; exact b.size, fun k hk => (setRow_other w' n k cs (by omega)).trans (b.block k hk)⟩
theorem set6 {w : World} {g : Nat} {c0 c1 c2 c3 c4 c5 v0 v1 v2 v3 v4 v5 : Value} (r0 : w.heap[g]? = some (.cells #[c0, c1, c2, c3, c4, c5] 26 (0, 0))) : ((((((w.setCell ⟨g, 0, none⟩ v0).setCell ⟨g, 1, none⟩ v1).setCell ⟨g, 2, none⟩ v2).setCell ⟨g, 3, none⟩ v3).setCell ⟨g, 4, none⟩ v4).setCell ⟨g, 5, none⟩ v5).heap[g]? = some (.cells #[v0, v1, v2, v3, v4, v5] 26 (0, 0)) := by
  have r1 := heap_setCell_same _ g 0 _ 26 v0 r0
  simp only [List.setIfInBounds_toArray, List.set_cons_zero] at r1
  have r2 := heap_setCell_same _ g 1 _ 26 v1 r1
  simp only [List.setIfInBounds_toArray, List.set_cons_zero, List.set_cons_succ] at r2
  have r3 := heap_setCell_same _ g 2 _ 26 v2 r2
  simp only [List.setIfInBounds_toArray, List.set_cons_zero, List.set_cons_succ] at r3
  have r4 := heap_setCell_same _ g 3 _ 26 v3 r3
  simp only [List.setIfInBounds_toArray, List.set_cons_zero, List.set_cons_succ] at r4
  have r5 := heap_setCell_same _ g 4 _ 26 v4 r4
  simp only [List.setIfInBounds_toArray, List.set_cons_zero, List.set_cons_succ] at r5
  have r6 := heap_setCell_same _ g 5 _ 26 v5 r5
  simp only [List.setIfInBounds_toArray, List.set_cons_zero, List.set_cons_succ] at r6
  exact r6
theorem info26 : (Tryd.prog.info? 26).map (·.size) = some 6 := by kernel_rfl
theorem ones26 (a b c d e : Int) : (#[.int .i64 a, .int .i64 b, .int .i64 c, .int .i64 d, .int .i64 e, .string ⟨#[]⟩] : Array Value).all (·.oneCell') = true := by simp [Value.oneCell']
set_option maxRecDepth 100000 in
set_option maxHeartbeats 4000000 in
theorem front_col_5 (v : Value) (r : List (List Int)) (B : Nat) (w : World) (h : RowAt w v r) (hl : r.length ≤ 1000) (L : Nat) (hL : (valuesL r).length = L) (v0 v2 : Int) (hv0 : (valuesL r)[0]?.getD 0 = v0) (hv1 : (valuesL r)[1]?.getD 0 = 5) (hv2 : (valuesL r)[2]?.getD 0 = v2) (hB : ofB v0 = true) (h3 : 3 ≤ L) : Calls Tryd.prog 54 #[v, .map (some B)] w (Ret (.tuple #[.agg #[.int .i64 (kd (shade (ofN v0) 5 [v2]).2), .int .i64 (shade (ofN v0) 5 [v2]).1.n, .int .i64 (shade (ofN v0) 5 [v2]).1.m, .int .i64 (shade (ofN v0) 5 [v2]).1.ck, .int .i64 (shade (ofN v0) 5 [v2]).1.cn, .string ⟨#[]⟩], .bool (shade (ofN v0) 5 [v2]).2, .int .i64 3]) w) := by
  have HV := Lib.hid (values_cons v r hl L hL (by omega))
  have HO := Lib.hid (of_any v0)
  have hle := values_le r
  have H := Lib.hid h
  obtain ⟨a, cap, rfl, -, -⟩ := h
  have e0 : ((L : Int) == 0) = false := by simp; omega
  have e1 : decide ((L : Int) > 1) = true := by simp; omega
  have e3 : decide ((L : Int) ≥ 3) = true := by simp; omega
  have hrl : 3 ≤ r.length := by omega
  rw [hB] at HO
  clear hL hle
  generalize valuesL r = V at *
  generalize ofN v0 = on at *
  generalize hob : ofB v0 = ob at *
  generalize r.length = n at *
  go_enter Tryd.func54, Tryd.ntmps54
  go_upto_region 2 with (first | (go_at_call 86; (with_reducible refine (HV.out _ (H.out.grows (by repeat' (first | (with_reducible exact Grows.refl _) | (with_reducible refine Grows.alloc ?_ _) | (with_reducible refine Grows.drew ?_) | (with_reducible refine Grows.ext ?_ _ _))))).mono ?_); rintro e w' ⟨b3, off3, cap3, rfl, hcap, hb1, hb2, hc3, h1, d1, rfl⟩))
  have c0 := hc3 0 (by omega)
  have c1 := hc3 1 (by omega)
  have c2 := hc3 2 (by omega)
  rw [hv0] at c0
  rw [hv1] at c1
  rw [hv2] at c2
  simp only [Nat.add_zero] at c0
  have hn1 : ¬ b3 = w.heap.size := by simp at hb1; omega
  refine abs_worldM (fun W => Grows w W ∧ W.heap[w.heap.size]? = some (.cells #[.int .i64 0, .int .i64 0, .int .i64 0, .int .i64 0, .int .i64 0, .string ⟨#[]⟩] 26 (0, 0)) ∧ b3 < W.heap.size ∧ W.cell? ⟨b3, off3, none⟩ = some (.int .i64 v0) ∧ W.cell? ⟨b3, off3 + 1, none⟩ = some (.int .i64 5) ∧ IntsAt W (.slice (some ⟨b3, off3 + 2, none⟩) 1 (cap3 - 2)) [v2]) ⟨(by repeat' (first | (with_reducible exact Grows.refl _) | (with_reducible refine Grows.alloc ?_ _) | (with_reducible refine Grows.drew ?_) | (with_reducible refine Grows.ext ?_ _ _))), (Grows.rowK (heap_alloc_new w _) ((Grows.refl _).ext _ _)), hb2, c0, c1, ints1 (by omega) hb2 c2⟩ ?_
  clear hc3 hb1 hb2 c0 c1 c2
  rintro W ⟨hG, R, hb2, c0, c1, hI⟩
  obtain ⟨N, hN⟩ : ∃ N, N = w.heap.size := ⟨_, rfl⟩
  have hN0 : w.heap.size ≤ N := by omega
  rw [← hN] at R hn1
  simp only [← hN]
  clear hN
  have hn2 : ¬ N = b3 := by omega
  have z0 : W.cell? ⟨N, 0, none⟩ = some (.int .i64 0) := (cell_of_row W N 0 _ 26 (0, 0) R).trans rfl
  have f0 := frozen_of_row W N 0 _ 26 R
  have z1 : W.cell? ⟨N, 1, none⟩ = some (.int .i64 0) := (cell_of_row W N 1 _ 26 (0, 0) R).trans rfl
  have f1 := frozen_of_row W N 1 _ 26 R
  have z2 : W.cell? ⟨N, 2, none⟩ = some (.int .i64 0) := (cell_of_row W N 2 _ 26 (0, 0) R).trans rfl
  have f2 := frozen_of_row W N 2 _ 26 R
  have z3 : W.cell? ⟨N, 3, none⟩ = some (.int .i64 0) := (cell_of_row W N 3 _ 26 (0, 0) R).trans rfl
  have f3 := frozen_of_row W N 3 _ 26 R
  have z4 : W.cell? ⟨N, 4, none⟩ = some (.int .i64 0) := (cell_of_row W N 4 _ 26 (0, 0) R).trans rfl
  have f4 := frozen_of_row W N 4 _ 26 R
  have z5 : W.cell? ⟨N, 5, none⟩ = some (.string ⟨#[]⟩) := (cell_of_row W N 5 _ 26 (0, 0) R).trans rfl
  have f5 := frozen_of_row W N 5 _ 26 R
  have hsz : N < W.heap.size := (Array.getElem?_eq_some_iff.1 R).1
  have HR0 := Lib.hid R
  have HG := Lib.hid hG
  have HI := Lib.hid hI
  have HS := Lib.hid fun m W hW => shade_any m 5 (.slice (some ⟨b3, off3 + 2, none⟩) 1 (cap3 - 2)) [v2] (by simp) W hW
  have hk1 : (3 : Int) ≤ (cap3 : Int) := by omega
  have hk2 : ¬ cap3 = 2 := by omega
  have hl1 : 1 < L := by omega
  have hl2 : (1 : Int) < (L : Int) := by omega
  have hl3 : ¬ (L : Int) ≤ 1 := by omega
  clear hG hI R
  go_upto_region 11 with (first | (go_at_call 88; (with_reducible refine (HO.out _).mono ?_); rintro e w' ⟨rfl, rfl⟩))
  refine wp_region_held_drew (S := fun w' => w'.cell? ⟨b3, off3 + 1, none⟩ = some (.int .i64 5)) (by kernel_rfl) ?_ (fun hHeld => ?_)
  · (simp [go_sem, c1])
  refine wpAnyH_take (i := 0) (v := ?v40_0) rfl (by kernel_rfl) (by kernel_rfl) (by kernel_rfl) (fun _ _ _ h => h) (Or.inl ⟨by kernel_rfl, ?y40_0⟩) (by assumption) ?r40_0
  case y40_0 => ((intro w hSw; (try dsimp only at hSw); go_simp); (try with_reducible rfl))
  try simp only [Act.put, List.getElem_toArray, List.getElem_cons_zero, List.setIfInBounds_toArray, List.set_cons_zero, List.set_cons_succ]
  refine wpAnyH_take (i := 1) (v := ?v41_1) rfl (by kernel_rfl) (by kernel_rfl) (by kernel_rfl) (fun _ _ _ h => h) (Or.inl ⟨by kernel_rfl, ?y41_1⟩) (by assumption) ?r41_1
  case y41_1 => ((intro w hSw; (try dsimp only at hSw); go_simp); (try with_reducible rfl))
  try simp only [Act.put, List.getElem_toArray, List.getElem_cons_succ, List.getElem_cons_zero, List.setIfInBounds_toArray, List.set_cons_zero, List.set_cons_succ]
  refine wpAnyH_take (i := 2) (v := ?v42_2) rfl (by kernel_rfl) (by kernel_rfl) (by kernel_rfl) (fun _ _ _ h => h) (Or.inl ⟨by kernel_rfl, ?y42_2⟩) (by assumption) ?r42_2
  case y42_2 => ((intro w hSw; (try dsimp only at hSw); go_simp); (try with_reducible rfl))
  try simp only [Act.put, List.getElem_toArray, List.getElem_cons_succ, List.getElem_cons_zero, List.setIfInBounds_toArray, List.set_cons_zero, List.set_cons_succ]
  refine wpAnyH_take (i := 3) (v := ?v43_3) rfl (by kernel_rfl) (by kernel_rfl) (by kernel_rfl) (fun _ _ _ h => h) (Or.inl ⟨by kernel_rfl, ?y43_3⟩) (by assumption) ?r43_3
  case y43_3 => ((intro w hSw; (try dsimp only at hSw); go_simp); (try with_reducible rfl))
  try simp only [Act.put, List.getElem_toArray, List.getElem_cons_succ, List.getElem_cons_zero, List.setIfInBounds_toArray, List.set_cons_zero, List.set_cons_succ]
  refine wpAnyH_take (i := 4) (v := ?v44_4) rfl (by kernel_rfl) (by kernel_rfl) (by kernel_rfl) (fun _ _ _ h => h) (Or.inl ⟨by kernel_rfl, ?y44_4⟩) (by assumption) ?r44_4
  case y44_4 => ((intro w hSw; (try dsimp only at hSw); go_simp); (try with_reducible rfl))
  try simp only [Act.put, List.getElem_toArray, List.getElem_cons_succ, List.getElem_cons_zero, List.setIfInBounds_toArray, List.set_cons_zero, List.set_cons_succ]
  refine wpAnyH_take (i := 5) (v := ?v45_5) rfl (by kernel_rfl) (by kernel_rfl) (by kernel_rfl) (fun _ _ _ h => h) (Or.inl ⟨by kernel_rfl, ?y45_5⟩) (by assumption) ?r45_5
  case y45_5 => ((intro w hSw; (try dsimp only at hSw); go_simp); (try with_reducible rfl))
  try simp only [Act.put, List.getElem_toArray, List.getElem_cons_succ, List.getElem_cons_zero, List.setIfInBounds_toArray, List.set_cons_zero, List.set_cons_succ]
  refine wpAnyH_take (i := 6) (v := ?v46_6) rfl (by kernel_rfl) (by kernel_rfl) (by kernel_rfl) (fun _ _ _ h => h) (Or.inl ⟨by kernel_rfl, ?y46_6⟩) (by assumption) ?r46_6
  case y46_6 => ((intro w hSw; (try dsimp only at hSw); go_simp); (try with_reducible rfl))
  try simp only [Act.put, List.getElem_toArray, List.getElem_cons_succ, List.getElem_cons_zero, List.setIfInBounds_toArray, List.set_cons_zero, List.set_cons_succ]
  refine wpAnyH_ready (rs := [7]) (by kernel_rfl) (by simp) ?_
  refine AllReadyH.cons rfl (fun K hK => ?_) AllReadyH.nil
  simp only [List.getElem_toArray, List.getElem_cons_succ, List.getElem_cons_zero]
  go_simp
  (go_at_call 89; (with_reducible refine (HS.out _ _ (HI.out.grows (by repeat' (first | (with_reducible exact Grows.refl _) | (with_reducible refine Grows.alloc ?_ _) | (with_reducible refine Grows.drew ?_) | (with_reducible refine Grows.ext ?_ _ _))))).mono ?_); rintro e w' ⟨rfl, h40, d40, rfl⟩)
  refine hK.out _ _ ?_ ?_
  · ((try dsimp only); simp [go_sem, hb2, c1])
  clear hK K hHeld
  intro hHeld
  try simp only [Act.put, List.getElem_toArray, List.getElem_cons_succ, List.getElem_cons_zero, List.setIfInBounds_toArray, List.set_cons_zero, List.set_cons_succ]
  refine wpAnyH_take (i := 8) (v := ?v48_8) rfl (by kernel_rfl) (by kernel_rfl) (by kernel_rfl) (fun _ _ _ h => h) (Or.inl ⟨by kernel_rfl, ?y48_8⟩) (by assumption) ?r48_8
  case y48_8 => ((intro w hSw; (try dsimp only at hSw); go_simp); (try with_reducible rfl))
  try simp only [Act.put, List.getElem_toArray, List.getElem_cons_succ, List.getElem_cons_zero, List.setIfInBounds_toArray, List.set_cons_zero, List.set_cons_succ]
  refine wpAnyH_take (i := 9) (v := ?v49_9) rfl (by kernel_rfl) (by kernel_rfl) (by kernel_rfl) (fun _ _ _ h => h) (Or.inl ⟨by kernel_rfl, ?y49_9⟩) (by assumption) ?r49_9
  case y49_9 => ((intro w hSw; (try dsimp only at hSw); go_simp); (try with_reducible rfl))
  try simp only [Act.put, List.getElem_toArray, List.getElem_cons_succ, List.getElem_cons_zero, List.setIfInBounds_toArray, List.set_cons_zero, List.set_cons_succ]
  refine wpAnyH_take (i := 10) (v := ?v50_10) rfl (by kernel_rfl) (by kernel_rfl) (by kernel_rfl) (fun _ _ _ h => h) (Or.inl ⟨by kernel_rfl, ?y50_10⟩) (by assumption) ?r50_10
  case y50_10 => ((intro w hSw; (try dsimp only at hSw); go_simp); (try with_reducible rfl))
  try simp only [Act.put, List.getElem_toArray, List.getElem_cons_succ, List.getElem_cons_zero, List.setIfInBounds_toArray, List.set_cons_zero, List.set_cons_succ]
  refine wpAnyH_ready (rs := [11]) (by kernel_rfl) (by simp) ?_
  refine AllReadyH.cons rfl (fun K hK => ?_) AllReadyH.nil
  simp only [List.getElem_toArray, List.getElem_cons_succ, List.getElem_cons_zero]
  go_simp
  skip
  refine hK.out _ _ ?_ ?_
  · ((try dsimp only); simp [go_sem, hb2, c1])
  clear hK K hHeld
  intro hHeld
  try simp only [Act.put, List.getElem_toArray, List.getElem_cons_succ, List.getElem_cons_zero, List.setIfInBounds_toArray, List.set_cons_zero, List.set_cons_succ]
  refine wpAnyH_take (i := 12) (v := ?v52_12) rfl (by kernel_rfl) (by kernel_rfl) (by kernel_rfl) (fun _ _ _ h => h) (Or.inl ⟨by kernel_rfl, ?y52_12⟩) (by assumption) ?r52_12
  case y52_12 => ((intro w hSw; (try dsimp only at hSw); go_simp); (try with_reducible rfl))
  try simp only [Act.put, List.getElem_toArray, List.getElem_cons_succ, List.getElem_cons_zero, List.setIfInBounds_toArray, List.set_cons_zero, List.set_cons_succ]
  refine wpAnyH_done (by kernel_rfl) ?_ _
  clear hHeld
  go_upto_region 12 with fail
  refine abs_worldM (fun W2 => Grows w W2 ∧ W2.heap[N]? = some (.cells #[.int .i64 (kd (shade on 5 [v2]).2), .int .i64 (shade on 5 [v2]).1.n, .int .i64 (shade on 5 [v2]).1.m, .int .i64 (shade on 5 [v2]).1.ck, .int .i64 (shade on 5 [v2]).1.cn, .string ⟨#[]⟩] 26 (0, 0))) ⟨(by repeat' (first | (with_reducible exact HG.out) | (with_reducible refine Grows.setCell ?_ hN0 _) | (with_reducible refine Grows.drew ?_) | (with_reducible refine Grows.ext ?_ _ _))), Grows.rowK (set6 HR0.out) (by repeat' (first | (with_reducible exact Grows.refl _) | (with_reducible refine Grows.drew ?_) | (with_reducible refine Grows.ext ?_ _ _)))⟩ ?_
  clear z0 z1 z2 z3 z4 z5 f0 f1 f2 f3 f4 f5 c0 c1 hb2 hsz
  rintro W2 ⟨hG2, R2⟩
  have HR := Lib.hid R2
  have HG2 := Lib.hid hG2
  clear R2 hG2
  go_wp2_with (first | ((with_reducible refine wpList_load_row (o := ⟨_, .load 26 (.tmp 4), _, _, _, _⟩) ?_ 26 (.tmp 4) ?_ N ?_ 26 #[.int .i64 (kd (shade on 5 [v2]).2), .int .i64 (shade on 5 [v2]).1.n, .int .i64 (shade on 5 [v2]).1.m, .int .i64 (shade on 5 [v2]).1.ck, .int .i64 (shade on 5 [v2]).1.cn, .string ⟨#[]⟩] (0, 0) _ ?_ Tryd.underlying26 ?_ ?_ ?_); exact rfl; exact rfl; exact rfl; exact HR.out; exact rfl; exact info26) | ((with_reducible refine wpList_store_row (o := ⟨_, .store 26 (.tmp 4) (.tmp 69), _, _, _, _⟩) ?_ 26 (.tmp 4) (.tmp 69) ?_ N #[.int .i64 (kd (shade on 5 [v2]).2), .int .i64 (shade on 5 [v2]).1.n, .int .i64 (shade on 5 [v2]).1.m, .int .i64 (shade on 5 [v2]).1.ck, .int .i64 (shade on 5 [v2]).1.cn, .string ⟨#[]⟩] ?_ ?_ 26 #[.int .i64 (kd (shade on 5 [v2]).2), .int .i64 (shade on 5 [v2]).1.n, .int .i64 (shade on 5 [v2]).1.m, .int .i64 (shade on 5 [v2]).1.ck, .int .i64 (shade on 5 [v2]).1.cn, .string ⟨#[]⟩] ?_ ?_ ?_ ?_ ?_); exact rfl; exact rfl; exact rfl; exact rfl; exact HR.out; exact info26; exact rfl; exact ones26 _ _ _ _ _))
  have hrow := setRow_heap W2 N _ #[.int .i64 (kd (shade on 5 [v2]).2), .int .i64 (shade on 5 [v2]).1.n, .int .i64 (shade on 5 [v2]).1.m, .int .i64 (shade on 5 [v2]).1.ck, .int .i64 (shade on 5 [v2]).1.cn, .string ⟨#[]⟩] 26 (0, 0) HR.out
  have hl := run_loadVar_row (P := Tryd.prog) (W2.setRow N #[.int .i64 (kd (shade on 5 [v2]).2), .int .i64 (shade on 5 [v2]).1.n, .int .i64 (shade on 5 [v2]).1.m, .int .i64 (shade on 5 [v2]).1.ck, .int .i64 (shade on 5 [v2]).1.cn, .string ⟨#[]⟩]) N 26 26 #[.int .i64 (kd (shade on 5 [v2]).2), .int .i64 (shade on 5 [v2]).1.n, .int .i64 (shade on 5 [v2]).1.m, .int .i64 (shade on 5 [v2]).1.ck, .int .i64 (shade on 5 [v2]).1.cn, .string ⟨#[]⟩] (0, 0) _ hrow Tryd.underlying26 rfl info26
  refine bodyPost_ret (v := .tuple #[.agg #[.int .i64 (kd (shade on 5 [v2]).2), .int .i64 (shade on 5 [v2]).1.n, .int .i64 (shade on 5 [v2]).1.m, .int .i64 (shade on 5 [v2]).1.ck, .int .i64 (shade on 5 [v2]).1.cn, .string ⟨#[]⟩], .bool (shade on 5 [v2]).2, .int .i64 3]) ?_ rfl ?_
  · simp [results, Tryd.results54, asAddr, hl]
  · exact ⟨rfl, HG2.out.setRowK hN0 _⟩
set_option maxRecDepth 100000 in
set_option maxHeartbeats 4000000 in
theorem front_col_2 (v : Value) (r : List (List Int)) (B : Nat) (w : World) (h : RowAt w v r) (hl : r.length ≤ 1000) (L : Nat) (hL : (valuesL r).length = L) (v0 v2 v3 v4 : Int) (hv0 : (valuesL r)[0]?.getD 0 = v0) (hv1 : (valuesL r)[1]?.getD 0 = 2) (hv2 : (valuesL r)[2]?.getD 0 = v2) (hv3 : (valuesL r)[3]?.getD 0 = v3) (hv4 : (valuesL r)[4]?.getD 0 = v4) (hB : ofB v0 = true) (h3 : 5 ≤ L) : Calls Tryd.prog 54 #[v, .map (some B)] w (Ret (.tuple #[.agg #[.int .i64 (kd (shade (ofN v0) 2 [v2, v3, v4]).2), .int .i64 (shade (ofN v0) 2 [v2, v3, v4]).1.n, .int .i64 (shade (ofN v0) 2 [v2, v3, v4]).1.m, .int .i64 (shade (ofN v0) 2 [v2, v3, v4]).1.ck, .int .i64 (shade (ofN v0) 2 [v2, v3, v4]).1.cn, .string ⟨#[]⟩], .bool (shade (ofN v0) 2 [v2, v3, v4]).2, .int .i64 5]) w) := by
  have HV := Lib.hid (values_cons v r hl L hL (by omega))
  have HO := Lib.hid (of_any v0)
  have hle := values_le r
  have H := Lib.hid h
  obtain ⟨a, cap, rfl, -, -⟩ := h
  have e0 : ((L : Int) == 0) = false := by simp; omega
  have e1 : decide ((L : Int) > 1) = true := by simp; omega
  have e3 : decide ((L : Int) ≥ 5) = true := by simp; omega
  have hrl : 5 ≤ r.length := by omega
  rw [hB] at HO
  clear hL hle
  generalize valuesL r = V at *
  generalize ofN v0 = on at *
  generalize hob : ofB v0 = ob at *
  generalize r.length = n at *
  go_enter Tryd.func54, Tryd.ntmps54
  go_upto_region 2 with (first | (go_at_call 86; (with_reducible refine (HV.out _ (H.out.grows (by repeat' (first | (with_reducible exact Grows.refl _) | (with_reducible refine Grows.alloc ?_ _) | (with_reducible refine Grows.drew ?_) | (with_reducible refine Grows.ext ?_ _ _))))).mono ?_); rintro e w' ⟨b3, off3, cap3, rfl, hcap, hb1, hb2, hc3, h1, d1, rfl⟩))
  have c0 := hc3 0 (by omega)
  have c1 := hc3 1 (by omega)
  have c2 := hc3 2 (by omega)
  have c3 := hc3 3 (by omega)
  have c4 := hc3 4 (by omega)
  rw [hv0] at c0
  rw [hv1] at c1
  rw [hv2] at c2
  rw [hv3] at c3
  rw [hv4] at c4
  simp only [Nat.add_zero] at c0
  have hn1 : ¬ b3 = w.heap.size := by simp at hb1; omega
  refine abs_worldM (fun W => Grows w W ∧ W.heap[w.heap.size]? = some (.cells #[.int .i64 0, .int .i64 0, .int .i64 0, .int .i64 0, .int .i64 0, .string ⟨#[]⟩] 26 (0, 0)) ∧ b3 < W.heap.size ∧ W.cell? ⟨b3, off3, none⟩ = some (.int .i64 v0) ∧ W.cell? ⟨b3, off3 + 1, none⟩ = some (.int .i64 2) ∧ IntsAt W (.slice (some ⟨b3, off3 + 2, none⟩) 3 (cap3 - 2)) [v2, v3, v4]) ⟨(by repeat' (first | (with_reducible exact Grows.refl _) | (with_reducible refine Grows.alloc ?_ _) | (with_reducible refine Grows.drew ?_) | (with_reducible refine Grows.ext ?_ _ _))), (Grows.rowK (heap_alloc_new w _) ((Grows.refl _).ext _ _)), hb2, c0, c1, ints3 (by omega) hb2 c2 c3 c4⟩ ?_
  clear hc3 hb1 hb2 c0 c1 c2 c3 c4
  rintro W ⟨hG, R, hb2, c0, c1, hI⟩
  obtain ⟨N, hN⟩ : ∃ N, N = w.heap.size := ⟨_, rfl⟩
  have hN0 : w.heap.size ≤ N := by omega
  rw [← hN] at R hn1
  simp only [← hN]
  clear hN
  have hn2 : ¬ N = b3 := by omega
  have z0 : W.cell? ⟨N, 0, none⟩ = some (.int .i64 0) := (cell_of_row W N 0 _ 26 (0, 0) R).trans rfl
  have f0 := frozen_of_row W N 0 _ 26 R
  have z1 : W.cell? ⟨N, 1, none⟩ = some (.int .i64 0) := (cell_of_row W N 1 _ 26 (0, 0) R).trans rfl
  have f1 := frozen_of_row W N 1 _ 26 R
  have z2 : W.cell? ⟨N, 2, none⟩ = some (.int .i64 0) := (cell_of_row W N 2 _ 26 (0, 0) R).trans rfl
  have f2 := frozen_of_row W N 2 _ 26 R
  have z3 : W.cell? ⟨N, 3, none⟩ = some (.int .i64 0) := (cell_of_row W N 3 _ 26 (0, 0) R).trans rfl
  have f3 := frozen_of_row W N 3 _ 26 R
  have z4 : W.cell? ⟨N, 4, none⟩ = some (.int .i64 0) := (cell_of_row W N 4 _ 26 (0, 0) R).trans rfl
  have f4 := frozen_of_row W N 4 _ 26 R
  have z5 : W.cell? ⟨N, 5, none⟩ = some (.string ⟨#[]⟩) := (cell_of_row W N 5 _ 26 (0, 0) R).trans rfl
  have f5 := frozen_of_row W N 5 _ 26 R
  have hsz : N < W.heap.size := (Array.getElem?_eq_some_iff.1 R).1
  have HR0 := Lib.hid R
  have HG := Lib.hid hG
  have HI := Lib.hid hI
  have HS := Lib.hid fun m W hW => shade_any m 2 (.slice (some ⟨b3, off3 + 2, none⟩) 3 (cap3 - 2)) [v2, v3, v4] (by simp) W hW
  have hk1 : (5 : Int) ≤ (cap3 : Int) := by omega
  have hk2 : ¬ cap3 = 2 := by omega
  have hl1 : 1 < L := by omega
  have hl2 : (1 : Int) < (L : Int) := by omega
  have hl3 : ¬ (L : Int) ≤ 1 := by omega
  clear hG hI R
  go_upto_region 11 with (first | (go_at_call 88; (with_reducible refine (HO.out _).mono ?_); rintro e w' ⟨rfl, rfl⟩))
  refine wp_region_held_drew (S := fun w' => w'.cell? ⟨b3, off3 + 1, none⟩ = some (.int .i64 2)) (by kernel_rfl) ?_ (fun hHeld => ?_)
  · (simp [go_sem, c1])
  refine wpAnyH_take (i := 0) (v := ?v53_0) rfl (by kernel_rfl) (by kernel_rfl) (by kernel_rfl) (fun _ _ _ h => h) (Or.inl ⟨by kernel_rfl, ?y53_0⟩) (by assumption) ?r53_0
  case y53_0 => ((intro w hSw; (try dsimp only at hSw); go_simp); (try with_reducible rfl))
  try simp only [Act.put, List.getElem_toArray, List.getElem_cons_zero, List.setIfInBounds_toArray, List.set_cons_zero, List.set_cons_succ]
  refine wpAnyH_take (i := 1) (v := ?v54_1) rfl (by kernel_rfl) (by kernel_rfl) (by kernel_rfl) (fun _ _ _ h => h) (Or.inl ⟨by kernel_rfl, ?y54_1⟩) (by assumption) ?r54_1
  case y54_1 => ((intro w hSw; (try dsimp only at hSw); go_simp); (try with_reducible rfl))
  try simp only [Act.put, List.getElem_toArray, List.getElem_cons_succ, List.getElem_cons_zero, List.setIfInBounds_toArray, List.set_cons_zero, List.set_cons_succ]
  refine wpAnyH_take (i := 2) (v := ?v55_2) rfl (by kernel_rfl) (by kernel_rfl) (by kernel_rfl) (fun _ _ _ h => h) (Or.inl ⟨by kernel_rfl, ?y55_2⟩) (by assumption) ?r55_2
  case y55_2 => ((intro w hSw; (try dsimp only at hSw); go_simp); (try with_reducible rfl))
  try simp only [Act.put, List.getElem_toArray, List.getElem_cons_succ, List.getElem_cons_zero, List.setIfInBounds_toArray, List.set_cons_zero, List.set_cons_succ]
  refine wpAnyH_take (i := 3) (v := ?v56_3) rfl (by kernel_rfl) (by kernel_rfl) (by kernel_rfl) (fun _ _ _ h => h) (Or.inl ⟨by kernel_rfl, ?y56_3⟩) (by assumption) ?r56_3
  case y56_3 => ((intro w hSw; (try dsimp only at hSw); go_simp); (try with_reducible rfl))
  try simp only [Act.put, List.getElem_toArray, List.getElem_cons_succ, List.getElem_cons_zero, List.setIfInBounds_toArray, List.set_cons_zero, List.set_cons_succ]
  refine wpAnyH_take (i := 4) (v := ?v57_4) rfl (by kernel_rfl) (by kernel_rfl) (by kernel_rfl) (fun _ _ _ h => h) (Or.inl ⟨by kernel_rfl, ?y57_4⟩) (by assumption) ?r57_4
  case y57_4 => ((intro w hSw; (try dsimp only at hSw); go_simp); (try with_reducible rfl))
  try simp only [Act.put, List.getElem_toArray, List.getElem_cons_succ, List.getElem_cons_zero, List.setIfInBounds_toArray, List.set_cons_zero, List.set_cons_succ]
  refine wpAnyH_take (i := 5) (v := ?v58_5) rfl (by kernel_rfl) (by kernel_rfl) (by kernel_rfl) (fun _ _ _ h => h) (Or.inl ⟨by kernel_rfl, ?y58_5⟩) (by assumption) ?r58_5
  case y58_5 => ((intro w hSw; (try dsimp only at hSw); go_simp); (try with_reducible rfl))
  try simp only [Act.put, List.getElem_toArray, List.getElem_cons_succ, List.getElem_cons_zero, List.setIfInBounds_toArray, List.set_cons_zero, List.set_cons_succ]
  refine wpAnyH_take (i := 6) (v := ?v59_6) rfl (by kernel_rfl) (by kernel_rfl) (by kernel_rfl) (fun _ _ _ h => h) (Or.inl ⟨by kernel_rfl, ?y59_6⟩) (by assumption) ?r59_6
  case y59_6 => ((intro w hSw; (try dsimp only at hSw); go_simp); (try with_reducible rfl))
  try simp only [Act.put, List.getElem_toArray, List.getElem_cons_succ, List.getElem_cons_zero, List.setIfInBounds_toArray, List.set_cons_zero, List.set_cons_succ]
  refine wpAnyH_ready (rs := [7]) (by kernel_rfl) (by simp) ?_
  refine AllReadyH.cons rfl (fun K hK => ?_) AllReadyH.nil
  simp only [List.getElem_toArray, List.getElem_cons_succ, List.getElem_cons_zero]
  go_simp
  (go_at_call 89; (with_reducible refine (HS.out _ _ (HI.out.grows (by repeat' (first | (with_reducible exact Grows.refl _) | (with_reducible refine Grows.alloc ?_ _) | (with_reducible refine Grows.drew ?_) | (with_reducible refine Grows.ext ?_ _ _))))).mono ?_); rintro e w' ⟨rfl, h42, d42, rfl⟩)
  refine hK.out _ _ ?_ ?_
  · ((try dsimp only); simp [go_sem, hb2, c1])
  clear hK K hHeld
  intro hHeld
  try simp only [Act.put, List.getElem_toArray, List.getElem_cons_succ, List.getElem_cons_zero, List.setIfInBounds_toArray, List.set_cons_zero, List.set_cons_succ]
  refine wpAnyH_take (i := 8) (v := ?v61_8) rfl (by kernel_rfl) (by kernel_rfl) (by kernel_rfl) (fun _ _ _ h => h) (Or.inl ⟨by kernel_rfl, ?y61_8⟩) (by assumption) ?r61_8
  case y61_8 => ((intro w hSw; (try dsimp only at hSw); go_simp); (try with_reducible rfl))
  try simp only [Act.put, List.getElem_toArray, List.getElem_cons_succ, List.getElem_cons_zero, List.setIfInBounds_toArray, List.set_cons_zero, List.set_cons_succ]
  refine wpAnyH_take (i := 9) (v := ?v62_9) rfl (by kernel_rfl) (by kernel_rfl) (by kernel_rfl) (fun _ _ _ h => h) (Or.inl ⟨by kernel_rfl, ?y62_9⟩) (by assumption) ?r62_9
  case y62_9 => ((intro w hSw; (try dsimp only at hSw); go_simp); (try with_reducible rfl))
  try simp only [Act.put, List.getElem_toArray, List.getElem_cons_succ, List.getElem_cons_zero, List.setIfInBounds_toArray, List.set_cons_zero, List.set_cons_succ]
  refine wpAnyH_take (i := 10) (v := ?v63_10) rfl (by kernel_rfl) (by kernel_rfl) (by kernel_rfl) (fun _ _ _ h => h) (Or.inl ⟨by kernel_rfl, ?y63_10⟩) (by assumption) ?r63_10
  case y63_10 => ((intro w hSw; (try dsimp only at hSw); go_simp); (try with_reducible rfl))
  try simp only [Act.put, List.getElem_toArray, List.getElem_cons_succ, List.getElem_cons_zero, List.setIfInBounds_toArray, List.set_cons_zero, List.set_cons_succ]
  refine wpAnyH_ready (rs := [11]) (by kernel_rfl) (by simp) ?_
  refine AllReadyH.cons rfl (fun K hK => ?_) AllReadyH.nil
  simp only [List.getElem_toArray, List.getElem_cons_succ, List.getElem_cons_zero]
  go_simp
  skip
  refine hK.out _ _ ?_ ?_
  · ((try dsimp only); simp [go_sem, hb2, c1])
  clear hK K hHeld
  intro hHeld
  try simp only [Act.put, List.getElem_toArray, List.getElem_cons_succ, List.getElem_cons_zero, List.setIfInBounds_toArray, List.set_cons_zero, List.set_cons_succ]
  refine wpAnyH_take (i := 12) (v := ?v65_12) rfl (by kernel_rfl) (by kernel_rfl) (by kernel_rfl) (fun _ _ _ h => h) (Or.inl ⟨by kernel_rfl, ?y65_12⟩) (by assumption) ?r65_12
  case y65_12 => ((intro w hSw; (try dsimp only at hSw); go_simp); (try with_reducible rfl))
  try simp only [Act.put, List.getElem_toArray, List.getElem_cons_succ, List.getElem_cons_zero, List.setIfInBounds_toArray, List.set_cons_zero, List.set_cons_succ]
  refine wpAnyH_done (by kernel_rfl) ?_ _
  clear hHeld
  go_upto_region 12 with fail
  refine abs_worldM (fun W2 => Grows w W2 ∧ W2.heap[N]? = some (.cells #[.int .i64 (kd (shade on 2 [v2, v3, v4]).2), .int .i64 (shade on 2 [v2, v3, v4]).1.n, .int .i64 (shade on 2 [v2, v3, v4]).1.m, .int .i64 (shade on 2 [v2, v3, v4]).1.ck, .int .i64 (shade on 2 [v2, v3, v4]).1.cn, .string ⟨#[]⟩] 26 (0, 0))) ⟨(by repeat' (first | (with_reducible exact HG.out) | (with_reducible refine Grows.setCell ?_ hN0 _) | (with_reducible refine Grows.drew ?_) | (with_reducible refine Grows.ext ?_ _ _))), Grows.rowK (set6 HR0.out) (by repeat' (first | (with_reducible exact Grows.refl _) | (with_reducible refine Grows.drew ?_) | (with_reducible refine Grows.ext ?_ _ _)))⟩ ?_
  clear z0 z1 z2 z3 z4 z5 f0 f1 f2 f3 f4 f5 c0 c1 hb2 hsz
  rintro W2 ⟨hG2, R2⟩
  have HR := Lib.hid R2
  have HG2 := Lib.hid hG2
  clear R2 hG2
  go_wp2_with (first | ((with_reducible refine wpList_load_row (o := ⟨_, .load 26 (.tmp 4), _, _, _, _⟩) ?_ 26 (.tmp 4) ?_ N ?_ 26 #[.int .i64 (kd (shade on 2 [v2, v3, v4]).2), .int .i64 (shade on 2 [v2, v3, v4]).1.n, .int .i64 (shade on 2 [v2, v3, v4]).1.m, .int .i64 (shade on 2 [v2, v3, v4]).1.ck, .int .i64 (shade on 2 [v2, v3, v4]).1.cn, .string ⟨#[]⟩] (0, 0) _ ?_ Tryd.underlying26 ?_ ?_ ?_); exact rfl; exact rfl; exact rfl; exact HR.out; exact rfl; exact info26) | ((with_reducible refine wpList_store_row (o := ⟨_, .store 26 (.tmp 4) (.tmp 69), _, _, _, _⟩) ?_ 26 (.tmp 4) (.tmp 69) ?_ N #[.int .i64 (kd (shade on 2 [v2, v3, v4]).2), .int .i64 (shade on 2 [v2, v3, v4]).1.n, .int .i64 (shade on 2 [v2, v3, v4]).1.m, .int .i64 (shade on 2 [v2, v3, v4]).1.ck, .int .i64 (shade on 2 [v2, v3, v4]).1.cn, .string ⟨#[]⟩] ?_ ?_ 26 #[.int .i64 (kd (shade on 2 [v2, v3, v4]).2), .int .i64 (shade on 2 [v2, v3, v4]).1.n, .int .i64 (shade on 2 [v2, v3, v4]).1.m, .int .i64 (shade on 2 [v2, v3, v4]).1.ck, .int .i64 (shade on 2 [v2, v3, v4]).1.cn, .string ⟨#[]⟩] ?_ ?_ ?_ ?_ ?_); exact rfl; exact rfl; exact rfl; exact rfl; exact HR.out; exact info26; exact rfl; exact ones26 _ _ _ _ _))
  have hrow := setRow_heap W2 N _ #[.int .i64 (kd (shade on 2 [v2, v3, v4]).2), .int .i64 (shade on 2 [v2, v3, v4]).1.n, .int .i64 (shade on 2 [v2, v3, v4]).1.m, .int .i64 (shade on 2 [v2, v3, v4]).1.ck, .int .i64 (shade on 2 [v2, v3, v4]).1.cn, .string ⟨#[]⟩] 26 (0, 0) HR.out
  have hl := run_loadVar_row (P := Tryd.prog) (W2.setRow N #[.int .i64 (kd (shade on 2 [v2, v3, v4]).2), .int .i64 (shade on 2 [v2, v3, v4]).1.n, .int .i64 (shade on 2 [v2, v3, v4]).1.m, .int .i64 (shade on 2 [v2, v3, v4]).1.ck, .int .i64 (shade on 2 [v2, v3, v4]).1.cn, .string ⟨#[]⟩]) N 26 26 #[.int .i64 (kd (shade on 2 [v2, v3, v4]).2), .int .i64 (shade on 2 [v2, v3, v4]).1.n, .int .i64 (shade on 2 [v2, v3, v4]).1.m, .int .i64 (shade on 2 [v2, v3, v4]).1.ck, .int .i64 (shade on 2 [v2, v3, v4]).1.cn, .string ⟨#[]⟩] (0, 0) _ hrow Tryd.underlying26 rfl info26
  refine bodyPost_ret (v := .tuple #[.agg #[.int .i64 (kd (shade on 2 [v2, v3, v4]).2), .int .i64 (shade on 2 [v2, v3, v4]).1.n, .int .i64 (shade on 2 [v2, v3, v4]).1.m, .int .i64 (shade on 2 [v2, v3, v4]).1.ck, .int .i64 (shade on 2 [v2, v3, v4]).1.cn, .string ⟨#[]⟩], .bool (shade on 2 [v2, v3, v4]).2, .int .i64 5]) ?_ rfl ?_
  · simp [results, Tryd.results54, asAddr, hl]
  · exact ⟨rfl, HG2.out.setRowK hN0 _⟩
end Go.Proofs.YtobbphkfdhjmdaaDoor

