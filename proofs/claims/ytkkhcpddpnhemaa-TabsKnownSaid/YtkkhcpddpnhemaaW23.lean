/-
  Walk: the law TabsKnown.
-/
import Derived.Test.YtkkhcpddpnhemaaRows
import Derived.Test.YtkkhcpddpnhemaaLt
import Derived.Test.YtkkhcpddpnhemaaDefs
import Derived.Test.YtkkhcpddpnhemaaOwn
import Derived.Test.YtkkhcpddpnhemaaVis
import Derived.Test.YtkkhcpddpnhemaaW1
import Derived.Test.YtkkhcpddpnhemaaW2
import Derived.Test.YtkkhcpddpnhemaaW3
import Derived.Test.YtkkhcpddpnhemaaW4
import Derived.Test.YtkkhcpddpnhemaaW5
import Derived.Test.YtkkhcpddpnhemaaW6
import Derived.Test.YtkkhcpddpnhemaaW7
import Derived.Test.YtkkhcpddpnhemaaW11
import Derived.Test.YtkkhcpddpnhemaaW12
import Derived.Test.YtkkhcpddpnhemaaW13
import Derived.Test.YtkkhcpddpnhemaaW14
import Derived.Test.YtkkhcpddpnhemaaW15
import Derived.Test.YtkkhcpddpnhemaaW16
import Derived.WalkKit
import Derived.OwnWalk
import Derived.Deep.RegionHeld
import Derived.WalkSpells
import Derived.WalkLawsBesides
import Derived.Handy
import Derived.Outline
import Derived.Lib.Hide
import Derived.Deep.Light
import Derived.Deep.LoopGhost
import Derived.BigGuardPart
import Derived.BigQuiet
import Derived.Deep.QuietTactic
import Derived.Deep.DeepCutAuto
import Derived.Test.YtkkhcpddpnhemaaReg
namespace Go.Proofs.Ytkkhcpddpnhemaa
open Go.RowKit


theorem Grows.push {w w' : World} (h : Grows w w') (o : Obj) : Grows w { heap := w'.heap.push o, tape := w'.tape, drawn := w'.drawn, os := w'.os, output := w'.output } := h.alloc o
theorem abs_world {P : Program} {c : Code} {Q : Exit → Act → World → Prop} {a : Act} {w : World} (F : World → Prop) (hF : F w) (h : ∀ W, F W → c.wp P Q a W) : c.wp P Q a w := h w hF
def T5 : List Bool := [true, false, false, false, true]
def T4 : List Bool := [true, false, false, false]
theorem take4 {w : World} {a : Option Addr} (h : Bs w a T5) : Bs w a T4 := by
  rcases h with h | ⟨b, off, e, hb, hc⟩
  · cases h
  · refine .inr ⟨b, off, e, hb, fun j hj => ?_⟩
    have hj : j < 4 := hj
    rw [hc j (Nat.lt_trans hj (by decide))]
    have h : j = 0 ∨ j = 1 ∨ j = 2 ∨ j = 3 := by omega
    rcases h with rfl | rfl | rfl | rfl <;> rfl
theorem nx5 (col k r : Nat) (hr : nxt T5 k col = r) (hc : col < 5) (hk : k < 9223372036854775808) (a : Option Addr) (cp : Nat) (W : World) (h : Bs W a T5) : Calls Try.prog 24 #[.slice a 5 cp, .int .i64 col, .int .i64 k] W (Ret (.int .i64 r) W) := by
  rw [← hr]
  exact lnext_ok a 5 cp col k T5 rfl W h (by omega) hc hk
theorem bk5 (col k r : Nat) (hr : bck T5 k col = r) (hc : col < 5) (hk : k < 9223372036854775808) (a : Option Addr) (cp : Nat) (W : World) (h : Bs W a T5) : Calls Try.prog 25 #[.slice a 5 cp, .int .i64 col, .int .i64 k] W (Ret (.int .i64 r) W) := by
  rw [← hr]
  exact lback_ok a 5 cp col k T5 rfl W h (by omega) hc hk
theorem absG {w : World} {M : World → Prop} (h : ∀ W, Grows w W → M W) {W : World} (g : Grows w W) : M W := h W g
set_option maxRecDepth 100000 in
set_option maxHeartbeats 8000000 in
theorem lawKnown_true (w : World) : Calls Try.prog 9 #[] w (Ret (.bool true) w) := by
  obtain ⟨i0, hi, hz0, hz1, hz2⟩ := info_parts info4
  go_enter Try.func9, Try.ntmps9
  go_upto_region 1 with fail
  go_cut [1] (fun s1 wx => ∃ B g1 g2, s1 = .slice (some ⟨B, 0, none⟩) 3 3 ∧ wx.cell? ⟨B, 0, none⟩ = some (.slice none 0 0) ∧ wx.cell? ⟨B, 1, none⟩ = some (.slice (some ⟨g1, 0, none⟩) 1 1) ∧ wx.cell? ⟨B, 2, none⟩ = some (.slice (some ⟨g2, 0, none⟩) 81 81) ∧ B < wx.heap.size ∧ Grows w wx)
  case first =>
    refine wp_region_held_drew (S := fun w' => Grows w w') (by kernel_rfl) ?_ (fun hHeld => ?_)
    · exact (by first | (refine Grows.push ?_ _; assumption) | (refine Grows.push ?_ _; exact Grows.drew (Grows.refl _)) | exact (by repeat' (first | (with_reducible exact Grows.refl _) | (with_reducible assumption) | (with_reducible refine Grows.alloc ?_ _) | (with_reducible refine Grows.drew ?_) | (with_reducible refine Grows.ext ?_ _ _))))
    refine wpAnyH_ready (rs := [0, 1]) (by kernel_rfl) (by simp) ?_
    refine AllReadyH.cons rfl (fun K hK => ?_) (AllReadyH.cons rfl (fun K hK => ?_) AllReadyH.nil)
    · simp only [List.getElem_toArray, List.getElem_cons_succ, List.getElem_cons_zero]
      go_simp
      refine hK.out _ _ ?_ ?_
      · exact (by first | (refine Grows.push ?_ _; assumption) | (refine Grows.push ?_ _; exact Grows.drew (Grows.refl _)) | exact (by repeat' (first | (with_reducible exact Grows.refl _) | (with_reducible assumption) | (with_reducible refine Grows.alloc ?_ _) | (with_reducible refine Grows.drew ?_) | (with_reducible refine Grows.ext ?_ _ _))))
      clear hK K hHeld
      intro hHeld
      refine absG ?_ hHeld
      clear hHeld
      intro W hHeld
      try simp only [Act.put, List.getElem_toArray, List.getElem_cons_succ, List.getElem_cons_zero, List.setIfInBounds_toArray, List.set_cons_zero, List.set_cons_succ]
      refine wpAnyH_ready (rs := [1]) (by kernel_rfl) (by simp) ?_
      refine AllReadyH.cons rfl (fun K hK => ?_) AllReadyH.nil
      simp only [List.getElem_toArray, List.getElem_cons_succ, List.getElem_cons_zero]
      go_simp
      refine hK.out _ _ ?_ ?_
      · exact (by first | (refine Grows.push ?_ _; assumption) | (refine Grows.push ?_ _; exact Grows.drew (Grows.refl _)) | exact (by repeat' (first | (with_reducible exact Grows.refl _) | (with_reducible assumption) | (with_reducible refine Grows.alloc ?_ _) | (with_reducible refine Grows.drew ?_) | (with_reducible refine Grows.ext ?_ _ _))))
      clear hK K hHeld
      intro hHeld
      refine absG ?_ hHeld
      clear hHeld
      intro W hHeld
      try simp only [Act.put, List.getElem_toArray, List.getElem_cons_succ, List.getElem_cons_zero, List.setIfInBounds_toArray, List.set_cons_zero, List.set_cons_succ]
      refine wpAnyH_ready (rs := [2]) (by kernel_rfl) (by simp) ?_
      refine AllReadyH.cons rfl (fun K hK => ?_) AllReadyH.nil
      simp only [List.getElem_toArray, List.getElem_cons_succ, List.getElem_cons_zero]
      go_simp
      refine hK.out _ _ ?_ ?_
      · exact (by first | (refine Grows.push ?_ _; assumption) | (refine Grows.push ?_ _; exact Grows.drew (Grows.refl _)) | exact (by repeat' (first | (with_reducible exact Grows.refl _) | (with_reducible assumption) | (with_reducible refine Grows.alloc ?_ _) | (with_reducible refine Grows.drew ?_) | (with_reducible refine Grows.ext ?_ _ _))))
      clear hK K hHeld
      intro hHeld
      try simp only [Act.put, List.getElem_toArray, List.getElem_cons_succ, List.getElem_cons_zero, List.setIfInBounds_toArray, List.set_cons_zero, List.set_cons_succ]
      refine wpAnyH_ready (rs := [3]) (by kernel_rfl) (by simp) ?_
      refine AllReadyH.cons rfl (fun K hK => ?_) AllReadyH.nil
      simp only [List.getElem_toArray, List.getElem_cons_succ, List.getElem_cons_zero]
      go_simp
      refine hK.out _ _ ?_ ?_
      · exact (by first | (refine Grows.push ?_ _; assumption) | (refine Grows.push ?_ _; exact Grows.drew (Grows.refl _)) | exact (by repeat' (first | (with_reducible exact Grows.refl _) | (with_reducible assumption) | (with_reducible refine Grows.alloc ?_ _) | (with_reducible refine Grows.drew ?_) | (with_reducible refine Grows.ext ?_ _ _))))
      clear hK K hHeld
      intro hHeld
      try simp only [Act.put, List.getElem_toArray, List.getElem_cons_succ, List.getElem_cons_zero, List.setIfInBounds_toArray, List.set_cons_zero, List.set_cons_succ]
      refine wpAnyH_done (by kernel_rfl) ?_ _
      have hGz := hHeld
      clear hHeld
      go_wp2_with fail
      go_meet
      exact ⟨_, _, _, rfl, (by go_simp), (by go_simp; exact ⟨rfl, by decide⟩), (by go_simp; exact ⟨rfl, by decide⟩), (by go_simp), hGz⟩
    · simp only [List.getElem_toArray, List.getElem_cons_succ, List.getElem_cons_zero]
      go_simp
      refine hK.out _ _ ?_ ?_
      · exact (by first | (refine Grows.push ?_ _; assumption) | (refine Grows.push ?_ _; exact Grows.drew (Grows.refl _)) | exact (by repeat' (first | (with_reducible exact Grows.refl _) | (with_reducible assumption) | (with_reducible refine Grows.alloc ?_ _) | (with_reducible refine Grows.drew ?_) | (with_reducible refine Grows.ext ?_ _ _))))
      clear hK K hHeld
      intro hHeld
      refine absG ?_ hHeld
      clear hHeld
      intro W hHeld
      try simp only [Act.put, List.getElem_toArray, List.getElem_cons_succ, List.getElem_cons_zero, List.setIfInBounds_toArray, List.set_cons_zero, List.set_cons_succ]
      refine wpAnyH_ready (rs := [0]) (by kernel_rfl) (by simp) ?_
      refine AllReadyH.cons rfl (fun K hK => ?_) AllReadyH.nil
      simp only [List.getElem_toArray, List.getElem_cons_succ, List.getElem_cons_zero]
      go_simp
      refine hK.out _ _ ?_ ?_
      · exact (by first | (refine Grows.push ?_ _; assumption) | (refine Grows.push ?_ _; exact Grows.drew (Grows.refl _)) | exact (by repeat' (first | (with_reducible exact Grows.refl _) | (with_reducible assumption) | (with_reducible refine Grows.alloc ?_ _) | (with_reducible refine Grows.drew ?_) | (with_reducible refine Grows.ext ?_ _ _))))
      clear hK K hHeld
      intro hHeld
      refine absG ?_ hHeld
      clear hHeld
      intro W hHeld
      try simp only [Act.put, List.getElem_toArray, List.getElem_cons_succ, List.getElem_cons_zero, List.setIfInBounds_toArray, List.set_cons_zero, List.set_cons_succ]
      refine wpAnyH_ready (rs := [2]) (by kernel_rfl) (by simp) ?_
      refine AllReadyH.cons rfl (fun K hK => ?_) AllReadyH.nil
      simp only [List.getElem_toArray, List.getElem_cons_succ, List.getElem_cons_zero]
      go_simp
      refine hK.out _ _ ?_ ?_
      · exact (by first | (refine Grows.push ?_ _; assumption) | (refine Grows.push ?_ _; exact Grows.drew (Grows.refl _)) | exact (by repeat' (first | (with_reducible exact Grows.refl _) | (with_reducible assumption) | (with_reducible refine Grows.alloc ?_ _) | (with_reducible refine Grows.drew ?_) | (with_reducible refine Grows.ext ?_ _ _))))
      clear hK K hHeld
      intro hHeld
      try simp only [Act.put, List.getElem_toArray, List.getElem_cons_succ, List.getElem_cons_zero, List.setIfInBounds_toArray, List.set_cons_zero, List.set_cons_succ]
      refine wpAnyH_ready (rs := [3]) (by kernel_rfl) (by simp) ?_
      refine AllReadyH.cons rfl (fun K hK => ?_) AllReadyH.nil
      simp only [List.getElem_toArray, List.getElem_cons_succ, List.getElem_cons_zero]
      go_simp
      refine hK.out _ _ ?_ ?_
      · exact (by first | (refine Grows.push ?_ _; assumption) | (refine Grows.push ?_ _; exact Grows.drew (Grows.refl _)) | exact (by repeat' (first | (with_reducible exact Grows.refl _) | (with_reducible assumption) | (with_reducible refine Grows.alloc ?_ _) | (with_reducible refine Grows.drew ?_) | (with_reducible refine Grows.ext ?_ _ _))))
      clear hK K hHeld
      intro hHeld
      try simp only [Act.put, List.getElem_toArray, List.getElem_cons_succ, List.getElem_cons_zero, List.setIfInBounds_toArray, List.set_cons_zero, List.set_cons_succ]
      refine wpAnyH_done (by kernel_rfl) ?_ _
      have hGz := hHeld
      clear hHeld
      go_wp2_with fail
      go_meet
      exact ⟨_, _, _, rfl, (by go_simp), (by go_simp; exact ⟨rfl, by decide⟩), (by go_simp; exact ⟨rfl, by decide⟩), (by go_simp), hGz⟩
  case rest =>
    obtain ⟨B, g1, g2, rfl, r0, r1, r2, hlt, GA⟩ := hcut
    have hGo := Lib.hid GA
    have HI : Hid (∀ k : Nat, k < 3 → ∃ a n c, wc.cell? ⟨B, k, none⟩ = some (.slice a n c) ∧ ¬ (2 ≤ n ∧ n ≤ 80) ∧ n ≤ 81) := Lib.hid fun k hk => by
      have hk : k = 0 ∨ k = 1 ∨ k = 2 := by omega
      rcases hk with rfl | rfl | rfl
      · exact ⟨none, 0, 0, r0, by omega, by omega⟩
      · exact ⟨_, 1, 1, r1, by omega, by omega⟩
      · exact ⟨_, 81, 81, r2, by omega, by omega⟩
    clear GA r0 r1 r2
    go_wp2
    go_loopw [2] (fun i wr => ∃ k : Nat, k ≤ 3 ∧ i = .int .i64 k ∧ Grows wc wr) (fun i _ => 3 - (intOf i).toNat)
    case atStart => exact ⟨0, by omega, by go_num, (by repeat' (first | (with_reducible exact Grows.refl _) | (with_reducible assumption) | (with_reducible refine Grows.alloc ?_ _) | (with_reducible refine Grows.drew ?_) | (with_reducible refine Grows.ext ?_ _ _)))⟩
    case round =>
      obtain ⟨k, hk, rfl, G⟩ := hrel
      by_cases hk3 : k = 3
      · subst hk3
        clear HI
        go_upto_region 13 with (refine wpList_make_full _ rfl (.const (.int .i64 5)) (.const (.int .i64 5)) 23 rfl wr.heap.size 4 i0 (.bool false) 1 Try.underlying23 hi hz0 hz1 .i64 .i64 5 5 5 rfl rfl rfl rfl (by rw [hz2]; omega) (by unfold maxLen; omega) (Nat.le_refl _) ?_; intro w1 hown hgrow)
        have HO := zeros_own 5 hown (by omega)
        have G1 : Grows wr w1 := Grows.of_grownBy hgrow (by simp)
        obtain ⟨h5, h6, h7, h8⟩ := Own.at HO
        have c0 := h7 0 (by simp)
        have c4 := h7 4 (by simp)
        have f0 := h8 0
        have f4 := h8 4
        have HO2 := (HO.set (i := 0) true).set (i := 4) true
        have G2 := (G1.setCell (Nat.le_refl _) (i := 0) (.bool true)).setCell (Nat.le_refl _) (i := 4) (.bool true)
        clear h7 h8 hown hgrow hi hz0 hz1 hz2
        go_upto_region 14 with fail
        refine abs_world (F := fun W => Own wr.heap.size W (some ⟨wr.heap.size, 0, none⟩) T5 ∧ Grows wr W) ⟨HO2, G2⟩ ?_
        clear HO2 G2 HO G1 c0 c4 f0 f4 h5 h6
        rintro w2 ⟨HO, G2⟩
        have hGG := Lib.hid (Grows.trans hGo.out (Grows.trans G G2))
        clear hGo G G2
        generalize wr.heap.size = g at *
        have HB := Lib.hid HO.bs
        have HB4 := Lib.hid (take4 HO.bs)
        clear HO
        have X0 : Hid (∀ W, Grows w2 W → Calls Try.prog 24 #[.slice (some ⟨g, 0, none⟩) 5 5, .int .i64 0, .int .i64 1] W (Ret (.int .i64 4) W)) := Lib.hid fun W gg => nx5 0 1 4 (by decide +kernel) (by omega) (by omega) _ 5 W (HB.out.grows gg)
        have X1 : Hid (∀ W, Grows w2 W → Calls Try.prog 24 #[.slice (some ⟨g, 0, none⟩) 5 5, .int .i64 4, .int .i64 1] W (Ret (.int .i64 4) W)) := Lib.hid fun W gg => nx5 4 1 4 (by decide +kernel) (by omega) (by omega) _ 5 W (HB.out.grows gg)
        have X2 : Hid (∀ W, Grows w2 W → Calls Try.prog 24 #[.slice (some ⟨g, 0, none⟩) 5 5, .int .i64 2, .int .i64 4611686018427387904] W (Ret (.int .i64 4) W)) := Lib.hid fun W gg => nx5 2 4611686018427387904 4 (by decide +kernel) (by omega) (by omega) _ 5 W (HB.out.grows gg)
        have X3 : Hid (∀ W, Grows w2 W → Calls Try.prog 25 #[.slice (some ⟨g, 0, none⟩) 5 5, .int .i64 4, .int .i64 1] W (Ret (.int .i64 0) W)) := Lib.hid fun W gg => bk5 4 1 0 (by decide +kernel) (by omega) (by omega) _ 5 W (HB.out.grows gg)
        have X4 : Hid (∀ W, Grows w2 W → Calls Try.prog 25 #[.slice (some ⟨g, 0, none⟩) 5 5, .int .i64 0, .int .i64 3] W (Ret (.int .i64 0) W)) := Lib.hid fun W gg => bk5 0 3 0 (by decide +kernel) (by omega) (by omega) _ 5 W (HB.out.grows gg)
        have X5 : Hid (∀ W, Grows w2 W → Calls Try.prog 25 #[.slice (some ⟨g, 0, none⟩) 5 5, .int .i64 2, .int .i64 4611686018427387904] W (Ret (.int .i64 0) W)) := Lib.hid fun W gg => bk5 2 4611686018427387904 0 (by decide +kernel) (by omega) (by omega) _ 5 W (HB.out.grows gg)
        have Y0 : Hid (∀ W, Calls Try.prog 24 #[.slice (some ⟨g, 0, none⟩) 5 5, .int .i64 5, .int .i64 1] W (Ret (.int .i64 (-1)) W)) := Lib.hid fun W => lnext_no _ 5 5 5 1 W (by omega) (by omega)
        have Y1 : Hid (∀ W, Calls Try.prog 24 #[.slice (some ⟨g, 0, none⟩) 5 5, .int .i64 (-1), .int .i64 1] W (Ret (.int .i64 (-1)) W)) := Lib.hid fun W => lnext_no _ 5 5 (-1) 1 W (by omega) (by omega)
        have Y2 : Hid (∀ W, Calls Try.prog 24 #[.slice (some ⟨g, 0, none⟩) 5 5, .int .i64 0, .int .i64 (-1)] W (Ret (.int .i64 (-1)) W)) := Lib.hid fun W => lnext_no _ 5 5 0 (-1) W (by omega) (by omega)
        have Y3 : Hid (∀ W, Calls Try.prog 25 #[.slice (some ⟨g, 0, none⟩) 5 5, .int .i64 5, .int .i64 0] W (Ret (.int .i64 (-1)) W)) := Lib.hid fun W => lback_no _ 5 5 5 0 W (by omega) (by omega)
        have Y4 : Hid (∀ W, Calls Try.prog 25 #[.slice (some ⟨g, 0, none⟩) 5 5, .int .i64 0, .int .i64 (-1)] W (Ret (.int .i64 (-1)) W)) := Lib.hid fun W => lback_no _ 5 5 0 (-1) W (by omega) (by omega)
        have Z0 : Hid (∀ W, Calls Try.prog 26 #[.int .i64 1] W fun e w' => e = .returned (.tuple #[.slice none 0 0, .int .i64 2]) ∧ W = w') := Lib.hid fun W => new_no 1 W (by omega)
        have Z1 : Hid (∀ W, Calls Try.prog 26 #[.int .i64 81] W fun e w' => e = .returned (.tuple #[.slice none 0 0, .int .i64 2]) ∧ W = w') := Lib.hid fun W => new_no 81 W (by omega)
        have S5 : Hid (∀ W, Calls Try.prog 19 #[.slice (some ⟨g, 0, none⟩) 5 5, .int .i64 5, .bool true] W fun e w' => e = .returned (.tuple #[.slice none 0 0, .int .i64 2]) ∧ W = w') := Lib.hid fun W => set_no _ 5 5 5 true W (by omega)
        have R5 : Hid (∀ W, Calls Try.prog 21 #[.slice (some ⟨g, 0, none⟩) 5 5, .int .i64 81] W fun e w' => e = .returned (.tuple #[.slice none 0 0, .int .i64 2]) ∧ W = w') := Lib.hid fun W => resize_c _ 5 5 81 W (by omega) (by omega)
        have N8 : Hid (∀ W, Calls Try.prog 26 #[.int .i64 80] W fun e w' => ∃ a cap, e = .returned (.tuple #[.slice a 80 cap, .int .i64 0]) ∧ Own W.heap.size w' a (newL 80) ∧ Grows W w') := Lib.hid fun W => new_ok 80 W (by omega) (by omega)
        have P8 : Hid (∀ a cap W, Bs W a (newL 80) → Calls Try.prog 31 #[.slice a 80 cap] W fun e W' => ∃ b c, e = .returned (.slice b 9 c) ∧ Is W' b (toI [8, 16, 24, 32, 40, 48, 56, 64, 72]) ∧ Grows W W') := Lib.hid fun a cap W h => pst (newL 80) 80 [8, 16, 24, 32, 40, 48, 56, 64, 72] 9 (by decide +kernel) rfl (by simp) (by omega) a cap W h
        have M1 : Hid (∀ W, Grows w2 W → Calls Try.prog 33 #[.slice (some ⟨g, 0, none⟩) 5 5, .slice (some ⟨g, 0, none⟩) 4 5] W (Ret (.bool false) W)) := Lib.hid fun W gg => same_any _ _ 5 5 T5 T4 W (HB.out.grows gg) (HB4.out.grows gg) (by decide) (by decide)
        have M2 : Hid (∀ W, Calls Try.prog 33 #[.slice none 0 0, .slice none 0 0] W (Ret (.bool true) W)) := Lib.hid fun W => same_any none none 0 0 [] [] W (.inl rfl) (.inl rfl) (by decide) (by decide)
        go_wp2_with (first | (go_at_call 24; (with_reducible refine (X0.out _ (by repeat' (first | (with_reducible exact Grows.refl _) | (with_reducible assumption) | (with_reducible refine Grows.alloc ?_ _) | (with_reducible refine Grows.drew ?_) | (with_reducible refine Grows.ext ?_ _ _)))).mono ?_); rintro e w' ⟨rfl, h10, d10, rfl⟩) | (go_at_call 24; (with_reducible refine (X1.out _ (by repeat' (first | (with_reducible exact Grows.refl _) | (with_reducible assumption) | (with_reducible refine Grows.alloc ?_ _) | (with_reducible refine Grows.drew ?_) | (with_reducible refine Grows.ext ?_ _ _)))).mono ?_); rintro e w' ⟨rfl, h11, d11, rfl⟩) | (go_at_call 24; (with_reducible refine (X2.out _ (by repeat' (first | (with_reducible exact Grows.refl _) | (with_reducible assumption) | (with_reducible refine Grows.alloc ?_ _) | (with_reducible refine Grows.drew ?_) | (with_reducible refine Grows.ext ?_ _ _)))).mono ?_); rintro e w' ⟨rfl, h12, d12, rfl⟩) | (go_at_call 25; (with_reducible refine (X3.out _ (by repeat' (first | (with_reducible exact Grows.refl _) | (with_reducible assumption) | (with_reducible refine Grows.alloc ?_ _) | (with_reducible refine Grows.drew ?_) | (with_reducible refine Grows.ext ?_ _ _)))).mono ?_); rintro e w' ⟨rfl, h13, d13, rfl⟩) | (go_at_call 25; (with_reducible refine (X4.out _ (by repeat' (first | (with_reducible exact Grows.refl _) | (with_reducible assumption) | (with_reducible refine Grows.alloc ?_ _) | (with_reducible refine Grows.drew ?_) | (with_reducible refine Grows.ext ?_ _ _)))).mono ?_); rintro e w' ⟨rfl, h14, d14, rfl⟩) | (go_at_call 25; (with_reducible refine (X5.out _ (by repeat' (first | (with_reducible exact Grows.refl _) | (with_reducible assumption) | (with_reducible refine Grows.alloc ?_ _) | (with_reducible refine Grows.drew ?_) | (with_reducible refine Grows.ext ?_ _ _)))).mono ?_); rintro e w' ⟨rfl, h15, d15, rfl⟩) | (go_at_call 24; (with_reducible refine (Y0.out _).mono ?_); rintro e w' ⟨rfl, h20, d20, rfl⟩) | (go_at_call 24; (with_reducible refine (Y1.out _).mono ?_); rintro e w' ⟨rfl, h21, d21, rfl⟩) | (go_at_call 24; (with_reducible refine (Y2.out _).mono ?_); rintro e w' ⟨rfl, h22, d22, rfl⟩) | (go_at_call 25; (with_reducible refine (Y3.out _).mono ?_); rintro e w' ⟨rfl, h23, d23, rfl⟩) | (go_at_call 25; (with_reducible refine (Y4.out _).mono ?_); rintro e w' ⟨rfl, h24, d24, rfl⟩) | (go_at_call 26; (with_reducible refine (Z0.out _).mono ?_); rintro e w' ⟨rfl, rfl⟩) | (go_at_call 26; (with_reducible refine (Z1.out _).mono ?_); rintro e w' ⟨rfl, rfl⟩) | (go_at_call 19; (with_reducible refine (S5.out _).mono ?_); rintro e w' ⟨rfl, rfl⟩) | (go_at_call 21; (with_reducible refine (R5.out _).mono ?_); rintro e w' ⟨rfl, rfl⟩) | (go_at_call 26; (with_reducible refine (N8.out _).mono ?_); rintro e w3 ⟨b3, cp3, rfl, O3, g3⟩; have q3 : Grows w2 w3 := Grows.trans (by repeat' (first | (with_reducible exact Grows.refl _) | (with_reducible assumption) | (with_reducible refine Grows.alloc ?_ _) | (with_reducible refine Grows.drew ?_) | (with_reducible refine Grows.ext ?_ _ _))) g3) | (go_at_call 15; refine (works_true _).mono ?_; rintro e w' ⟨rfl, h3, d3, rfl⟩) | (go_at_call 31; (with_reducible refine (P8.out _ _ _ (O3.bs.grows (by repeat' (first | (with_reducible exact Grows.refl _) | (with_reducible assumption) | (with_reducible refine Grows.alloc ?_ _) | (with_reducible refine Grows.drew ?_) | (with_reducible refine Grows.ext ?_ _ _))))).mono ?_); rintro e w4 ⟨b4, cp4, rfl, I4, g4⟩; have q4 : Grows w2 w4 := Grows.trans q3 (Grows.trans (by repeat' (first | (with_reducible exact Grows.refl _) | (with_reducible assumption) | (with_reducible refine Grows.alloc ?_ _) | (with_reducible refine Grows.drew ?_) | (with_reducible refine Grows.ext ?_ _ _))) g4)) | (go_at_call 33; (with_reducible refine (M1.out _ (Grows.trans q4 (by repeat' (first | (with_reducible exact Grows.refl _) | (with_reducible assumption) | (with_reducible refine Grows.alloc ?_ _) | (with_reducible refine Grows.drew ?_) | (with_reducible refine Grows.ext ?_ _ _))))).mono ?_); rintro e w' ⟨rfl, h4, d4, rfl⟩) | (go_at_call 33; (with_reducible refine (M2.out _).mono ?_); rintro e w' ⟨rfl, h5, d5, rfl⟩))
        go_returns
        exact ⟨rfl, Grows.trans hGG.out (by repeat' (first | (with_reducible exact Grows.refl _) | (with_reducible assumption) | (with_reducible refine Grows.alloc ?_ _) | (with_reducible refine Grows.drew ?_) | (with_reducible refine Grows.ext ?_ _ _)))⟩
      · obtain ⟨ax, nx, cx, hcell, hn, hn1⟩ := HI.out k (by omega)
        have e1 : decide ((k : Int) < 3) = true := by simp; omega
        have hi : (k : Int) < 3 := by omega
        have z0 : B < wr.heap.size := Nat.lt_of_lt_of_le hlt G.below.size
        have k0 := (G.below.cell (p := ⟨B, k, none⟩) hlt).trans hcell
        have K1 : Hid (∀ W, Calls Try.prog 11 #[.slice ax nx cx, .int .i64 9, .int .i64 (-1)] W (Ret (.tuple #[.int .i64 0, .int .i64 240]) W)) := Lib.hid fun W => by
          have := next_no ax nx cx 9 (-1) W (by omega) (by omega)
          rw [mErr_t hn] at this
          exact this.mono fun _ _ h => h
        have K2 : Hid (∀ W, Calls Try.prog 13 #[.slice ax nx cx, .int .i64 9, .int .i64 (-1)] W (Ret (.tuple #[.int .i64 0, .int .i64 240]) W)) := Lib.hid fun W => by
          have := back_no ax nx cx 9 (-1) W (by omega) (by omega)
          rw [mErr_t hn] at this
          exact this.mono fun _ _ h => h
        have K3 : Hid (∀ W, Calls Try.prog 19 #[.slice ax nx cx, .int .i64 (-1), .bool true] W fun e w' => e = .returned (.tuple #[.slice none 0 0, .int .i64 240]) ∧ W = w') := Lib.hid fun W => by
          have := set_no ax nx cx (-1) true W (by omega)
          rwa [wErr_t hn] at this
        have K4 := Lib.hid fun W => none_no ax nx cx W hn
        have K5 := Lib.hid fun W => resize_t ax nx cx 0 W hn
        have K6 : Hid (∀ W, Calls Try.prog 28 #[.slice ax nx cx] W fun e w' => e = .returned (.int .i64 240) ∧ W = w') := Lib.hid fun W => by
          have := check_any ax nx cx W
          rwa [tErr_no hn] at this
        clear hn hn1 HI hcell
        go_wp2_with (first | (go_at_call 11; (with_reducible refine (K1.out _).mono ?_); rintro e w' ⟨rfl, h1, d1, rfl⟩) | (go_at_call 13; (with_reducible refine (K2.out _).mono ?_); rintro e w' ⟨rfl, h2, d2, rfl⟩) | (go_at_call 19; (with_reducible refine (K3.out _).mono ?_); rintro e w' ⟨rfl, rfl⟩) | (go_at_call 16; (with_reducible refine (K4.out _).mono ?_); rintro e w' ⟨rfl, rfl⟩) | (go_at_call 21; (with_reducible refine (K5.out _).mono ?_); rintro e w' ⟨rfl, rfl⟩) | (go_at_call 28; (with_reducible refine (K6.out _).mono ?_); rintro e w' ⟨rfl, rfl⟩))
        go_roundw
        case rel => exact ⟨k + 1, by omega, by go_num, (by repeat' (first | (with_reducible exact Grows.refl _) | (with_reducible assumption) | (with_reducible refine Grows.alloc ?_ _) | (with_reducible refine Grows.drew ?_) | (with_reducible refine Grows.ext ?_ _ _)))⟩
        case measure => simp [intOf]; omega
end Go.Proofs.Ytkkhcpddpnhemaa
