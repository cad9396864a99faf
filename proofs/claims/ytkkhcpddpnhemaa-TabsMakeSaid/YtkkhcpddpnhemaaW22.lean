/-
  Walk: the law TabsMake.
-/
import Derived.Test.YtkkhcpddpnhemaaRows
import Derived.Test.YtkkhcpddpnhemaaLt
import Derived.Test.YtkkhcpddpnhemaaDefs
import Derived.Test.YtkkhcpddpnhemaaOwn
import Derived.Test.YtkkhcpddpnhemaaVis
import Derived.Test.YtkkhcpddpnhemaaW1
import Derived.Test.YtkkhcpddpnhemaaW2
import Derived.Test.YtkkhcpddpnhemaaW3
import Derived.Test.YtkkhcpddpnhemaaW4
import Derived.Test.YtkkhcpddpnhemaaW5
import Derived.Test.YtkkhcpddpnhemaaW6
import Derived.Test.YtkkhcpddpnhemaaW7
import Derived.Test.YtkkhcpddpnhemaaW11
import Derived.Test.YtkkhcpddpnhemaaW12
import Derived.Test.YtkkhcpddpnhemaaW13
import Derived.Test.YtkkhcpddpnhemaaW14
import Derived.Test.YtkkhcpddpnhemaaW15
import Derived.Test.YtkkhcpddpnhemaaW16
import Derived.WalkKit
import Derived.OwnWalk
import Derived.Deep.RegionHeld
import Derived.WalkSpells
import Derived.WalkLawsBesides
import Derived.Handy
import Derived.Outline
import Derived.Lib.Hide
import Derived.Deep.Light
import Derived.Deep.LoopGhost
import Derived.BigGuardPart
import Derived.BigQuiet
import Derived.Deep.QuietTactic
import Derived.Deep.DeepCutAuto
import Derived.Test.YtkkhcpddpnhemaaReg
namespace Go.Proofs.Ytkkhcpddpnhemaa
open Go.RowKit


set_option maxRecDepth 100000 in
set_option maxHeartbeats 8000000 in
theorem lawMake_true (n : Int) (cc : Int) (hcc : 0 ≤ cc ∧ cc < 256) (a : Option Addr) (cap : Nat) (l : List Int) (hl : l.length ≤ 9223372036854775807) (at0 : Option Addr) (capt : Nat) (tl : List Bool) (htl : tl.length ≤ 9223372036854775807) (hcap : tl.length ≤ capt) (hcap2 : capt ≤ 9223372036854775807) (w : World) (ha : Us w a l) (hb : Bs w at0 tl) : Calls Try.prog 8 #[.int .i64 n, .int .u8 cc, .slice a l.length cap, .slice at0 tl.length capt] w (Ret (.bool true) w) := by
  have HA := Lib.hid fun W (g : Grows w W) => all_any cc hcc a cap l hl at0 capt tl htl hcap hcap2 W (by
    obtain ⟨h1, h2⟩ := ha
    refine ⟨h1, ?_⟩
    rcases h2 with h | ⟨b, off, e, hbl, hca⟩
    · exact .inl h
    · exact .inr ⟨b, off, e, Nat.lt_of_lt_of_le hbl g.below.size, fun j hj => (g.below.cell (p := ⟨b, off + j, none⟩) hbl).trans (hca j hj)⟩) (hb.grows g)
  clear ha hb hcc hl htl hcap hcap2
  go_enter Try.func8, Try.ntmps8
  go_wp2
  go_loopw [24] (fun i wr => ∃ k : Nat, k ≤ 2 ∧ i = .int .i64 k ∧ Grows w wr) (fun i _ => 2 - (intOf i).toNat)
  case atStart => exact ⟨0, by omega, by go_num, (by repeat' (first | (with_reducible exact Grows.refl _) | (with_reducible assumption) | (with_reducible refine Grows.alloc ?_ _) | (with_reducible refine Grows.drew ?_) | (with_reducible refine Grows.ext ?_ _ _)))⟩
  case round =>
    obtain ⟨k, hk, rfl, G⟩ := hrel
    by_cases hk2 : k = 2
    · subst hk2
      go_wp2_with (go_at_call 10; refine (HA.out _ G).mono ?_; rintro e w1 ⟨a1, n1, c1, t1, a2, n2, c2, t2, a3, c3, rfl, hn1, hn2, ht1, hB1, ht2, hm2, hB2, hB3, G1⟩)
      have GA : Grows w1 (w1.alloc (.cells #[.slice a1 n1 c1, .slice a2 n2 c2, .slice a3 n1 c3] 24)) := (Grows.refl _).alloc _
      obtain ⟨r0, r1, r2, f0, hlt⟩ := res_cells (Grows.refl (w1.alloc (.cells #[.slice a1 n1 c1, .slice a2 n2 c2, .slice a3 n1 c3] 24)))
      have hGo := Lib.hid (Grows.trans G G1)
      generalize w1.alloc (.cells #[.slice a1 n1 c1, .slice a2 n2 c2, .slice a3 n1 c3] 24) = WA at *
      generalize w1.heap.size = B0 at *
      have HI := Lib.hid fun k hk => index24 (W := WA) a1 a2 a3 n1 n2 n1 c1 c2 c3 t1 t2 (newL n1) (hB1.grows GA) (hB2.grows GA) (hB3.grows GA) ht1 ht2 (by simp) (by omega) (by omega) (by omega) k hk
      have HT1 := Lib.hid (show Bs WA a1 t1 ∧ t1.length = n1 ∧ n1 ≤ 90 from ⟨hB1.grows GA, ht1, by omega⟩)
      have HT3 := Lib.hid (show Bs WA a3 (newL n1) ∧ (newL n1).length = n1 from ⟨hB3.grows GA, by simp⟩)
      clear f0 r1 hn1 hn2 hB1 ht2 hm2 hB2 hB3 HA G
      go_loopw [52] (fun i wr => ∃ k : Nat, k ≤ 3 ∧ i = .int .i64 k ∧ Grows WA wr) (fun i _ => 3 - (intOf i).toNat)
      case atStart => exact ⟨0, by omega, rfl, Grows.refl _⟩
      case round =>
        obtain ⟨k, hk, rfl, G⟩ := hrel
        by_cases hk3 : k = 3
        · subst hk3
          go_wp2_with (go_at_call 15; refine (works_true _).mono ?_; rintro e w' ⟨rfl, h1, d1, rfl⟩)
          go_returns
          exact ⟨rfl, Grows.trans hGo.out (Grows.trans GA (Grows.trans G (by repeat' (first | (with_reducible exact Grows.refl _) | (with_reducible assumption) | (with_reducible refine Grows.alloc ?_ _) | (with_reducible refine Grows.drew ?_) | (with_reducible refine Grows.ext ?_ _ _)))))⟩
        · obtain ⟨ax, nx, cx, lx, hBx, hlx, hnx, hix⟩ := HI.out k (by omega)
          have e1 : decide ((k : Int) < 3) = true := by simp; omega
          obtain ⟨hT1, ht1, hn90⟩ := HT1.out
          obtain ⟨hT3, ht3⟩ := HT3.out
          have HC1 := Lib.hid fun W => check_any ax nx cx W
          have HC2 := Lib.hid fun W => rcheck_any ax nx cx W
          have HS1 := Lib.hid fun W (g : Grows WA W) => pstops_any ax nx cx lx hlx hnx W (hBx.grows g)
          have HS2 := Lib.hid fun W (g : Grows WA W) => rstops_any ax nx cx lx hlx hnx W (hBx.grows g)
          have HIN : Hid (∀ b1 b2 d1 d2 W, Is W b1 (toI (vis (fw 0) lx nx)) → Is W b2 (toI (vis (fw 0) lx nx)) → Calls Try.prog 30 #[.slice b1 (vis (fw 0) lx nx).length d1, .slice b2 (vis (fw 0) lx nx).length d2] W (Ret (.bool true) W)) := Lib.hid fun b1 b2 d1 d2 W h1 h2 => by
            have hle := vis_len (fw 0) lx nx
            have := ints_any b1 b2 d1 d2 _ _ W h1 h2 (by rw [toI_length]; omega) (by rw [toI_length]; omega)
            simpa [toI_length] using this
          have HA1 : Hid (∀ W, Grows WA W → Calls Try.prog 33 #[.slice ax nx cx, .slice a1 n1 c1] W (Ret (.bool (decide (lx = t1))) W)) := Lib.hid fun W g => by
            have := same_any ax a1 cx c1 lx t1 W (hBx.grows g) (hT1.grows g) (by omega) (by omega)
            rwa [hlx, ht1] at this
          have HA2 : Hid (∀ W, Grows WA W → Calls Try.prog 18 #[.slice ax nx cx, .slice a1 n1 c1] W (Ret (.bool (decide (lx = t1))) W)) := Lib.hid fun W g => by
            have := rsame_any ax a1 cx c1 lx t1 W (hBx.grows g) (hT1.grows g) (by omega) (by omega)
            rwa [hlx, ht1] at this
          have HA3 : Hid (∀ W, Grows WA W → Calls Try.prog 33 #[.slice a3 n1 c3, .slice ax nx cx] W (Ret (.bool (decide (newL n1 = lx))) W)) := Lib.hid fun W g => by
            have := same_any a3 ax c3 cx (newL n1) lx W (hT3.grows g) (hBx.grows g) (by omega) (by omega)
            rwa [hlx, ht3] at this
          have HA4 : Hid (∀ W, Grows WA W → Calls Try.prog 18 #[.slice a3 n1 c3, .slice ax nx cx] W (Ret (.bool (decide (newL n1 = lx))) W)) := Lib.hid fun W g => by
            have := rsame_any a3 ax c3 cx (newL n1) lx W (hT3.grows g) (hBx.grows g) (by omega) (by omega)
            rwa [hlx, ht3] at this
          clear hT1 hT3 hBx
          generalize decide (lx = t1) = D1 at *
          generalize decide (newL n1 = lx) = D2 at *
          generalize toI (vis (fw 0) lx nx) = TI at *
          generalize (vis (fw 0) lx nx).length = m at *
          generalize tErr nx = er at *
          have fr : (er != er) = false := by simp
          have f1 : (D1 != D1) = false := by simp
          have f2 : (D2 != D2) = false := by simp
          have z0 : B0 < wr.heap.size := Nat.lt_of_lt_of_le hlt G.below.size
          have k0 := (G.below.cell (p := ⟨B0, 0, none⟩) hlt).trans r0
          have k2 := (G.below.cell (p := ⟨B0, 2, none⟩) hlt).trans r2
          clear hlx hnx ht1 ht3 hn90 HI HT1 HT3
          go_upto_region 13 with fail
          refine wp_region_held_drew (S := fun w' => Grows wr w') (by kernel_rfl) ?_ (fun hHeld => ?_)
          · exact (by repeat' (first | (with_reducible exact Grows.refl _) | (with_reducible assumption) | (with_reducible refine Grows.alloc ?_ _) | (with_reducible refine Grows.drew ?_) | (with_reducible refine Grows.ext ?_ _ _)))
          refine wpAnyH_take (i := 0) (v := ?v1_0) rfl (by kernel_rfl) (by kernel_rfl) (by kernel_rfl) (fun _ _ _ h => h) (Or.inl ⟨by kernel_rfl, ?y1_0⟩) (by assumption) ?r1_0
          case y1_0 => (intro wS hSw; obtain ⟨hhS, ddS, rfl⟩ := hSw; go_simp; (try with_reducible rfl))
          try simp only [Act.put, List.getElem_toArray, List.getElem_cons_succ, List.getElem_cons_zero, List.setIfInBounds_toArray, List.set_cons_zero, List.set_cons_succ]
          refine wpAnyH_take (i := 2) (v := ?v2_2) rfl (by kernel_rfl) (by kernel_rfl) (by kernel_rfl) (fun _ _ _ h => h) (Or.inl ⟨by kernel_rfl, ?y2_2⟩) (by assumption) ?r2_2
          case y2_2 => (intro wS hSw; obtain ⟨hhS, ddS, rfl⟩ := hSw; go_simp; (try with_reducible rfl))
          try simp only [Act.put, List.getElem_toArray, List.getElem_cons_succ, List.getElem_cons_zero, List.setIfInBounds_toArray, List.set_cons_zero, List.set_cons_succ]
          refine wpAnyH_ready (rs := [1]) (by kernel_rfl) (by simp) ?_
          refine AllReadyH.cons rfl (fun K hK => ?_) AllReadyH.nil
          simp only [List.getElem_toArray, List.getElem_cons_succ, List.getElem_cons_zero]
          go_simp
          (refine (HC1.out _).mono ?_; rintro _ _ ⟨rfl, rfl⟩)
          refine hK.out _ _ ?_ ?_
          · exact (by repeat' (first | (with_reducible exact Grows.refl _) | (with_reducible assumption) | (with_reducible refine Grows.alloc ?_ _) | (with_reducible refine Grows.drew ?_) | (with_reducible refine Grows.ext ?_ _ _)))
          clear hK K hHeld
          intro hHeld
          try simp only [Act.put, List.getElem_toArray, List.getElem_cons_succ, List.getElem_cons_zero, List.setIfInBounds_toArray, List.set_cons_zero, List.set_cons_succ]
          refine wpAnyH_ready (rs := [3]) (by kernel_rfl) (by simp) ?_
          refine AllReadyH.cons rfl (fun K hK => ?_) AllReadyH.nil
          simp only [List.getElem_toArray, List.getElem_cons_succ, List.getElem_cons_zero]
          go_simp
          (refine (HC2.out _).mono ?_; rintro _ _ ⟨rfl, rfl⟩)
          refine hK.out _ _ ?_ ?_
          · exact (by repeat' (first | (with_reducible exact Grows.refl _) | (with_reducible assumption) | (with_reducible refine Grows.alloc ?_ _) | (with_reducible refine Grows.drew ?_) | (with_reducible refine Grows.ext ?_ _ _)))
          clear hK K hHeld
          intro hHeld
          try simp only [Act.put, List.getElem_toArray, List.getElem_cons_succ, List.getElem_cons_zero, List.setIfInBounds_toArray, List.set_cons_zero, List.set_cons_succ]
          refine wpAnyH_take (i := 4) (v := ?v5_4) rfl (by kernel_rfl) (by kernel_rfl) (by kernel_rfl) (fun _ _ _ h => h) (Or.inl ⟨by kernel_rfl, ?y5_4⟩) (by assumption) ?r5_4
          case y5_4 => (intro wS hSw; obtain ⟨hhS, ddS, rfl⟩ := hSw; go_simp; (try with_reducible rfl))
          try simp only [Act.put, List.getElem_toArray, List.getElem_cons_succ, List.getElem_cons_zero, List.setIfInBounds_toArray, List.set_cons_zero, List.set_cons_succ]
          refine wpAnyH_take (i := 5) (v := ?v6_5) rfl (by kernel_rfl) (by kernel_rfl) (by kernel_rfl) (fun _ _ _ h => h) (Or.inl ⟨by kernel_rfl, ?y6_5⟩) (by assumption) ?r6_5
          case y6_5 => (intro wS hSw; obtain ⟨hhS, ddS, rfl⟩ := hSw; go_simp; (try with_reducible rfl))
          try simp only [Act.put, List.getElem_toArray, List.getElem_cons_succ, List.getElem_cons_zero, List.setIfInBounds_toArray, List.set_cons_zero, List.set_cons_succ]
          refine wpAnyH_take (i := 6) (v := ?v7_6) rfl (by kernel_rfl) (by kernel_rfl) (by kernel_rfl) (fun _ _ _ h => h) (Or.inl ⟨by kernel_rfl, ?y7_6⟩) (by assumption) ?r7_6
          case y7_6 => (intro wS hSw; obtain ⟨hhS, ddS, rfl⟩ := hSw; go_simp; (try with_reducible rfl))
          try simp only [Act.put, List.getElem_toArray, List.getElem_cons_succ, List.getElem_cons_zero, List.setIfInBounds_toArray, List.set_cons_zero, List.set_cons_succ]
          refine wpAnyH_take (i := 8) (v := ?v8_8) rfl (by kernel_rfl) (by kernel_rfl) (by kernel_rfl) (fun _ _ _ h => h) (Or.inl ⟨by kernel_rfl, ?y8_8⟩) (by assumption) ?r8_8
          case y8_8 => (intro wS hSw; obtain ⟨hhS, ddS, rfl⟩ := hSw; go_simp; (try with_reducible rfl))
          try simp only [Act.put, List.getElem_toArray, List.getElem_cons_succ, List.getElem_cons_zero, List.setIfInBounds_toArray, List.set_cons_zero, List.set_cons_succ]
          refine wpAnyH_ready (rs := [7]) (by kernel_rfl) (by simp) ?_
          refine AllReadyH.cons rfl (fun K hK => ?_) AllReadyH.nil
          simp only [List.getElem_toArray, List.getElem_cons_succ, List.getElem_cons_zero]
          go_simp
          (refine (HS1.out _ (Grows.trans G (by repeat' (first | (with_reducible exact Grows.refl _) | (with_reducible assumption) | (with_reducible refine Grows.alloc ?_ _) | (with_reducible refine Grows.drew ?_) | (with_reducible refine Grows.ext ?_ _ _))))).mono ?_; rintro e u1 ⟨b1, d1, rfl, I1, s1⟩; have p1 : Grows wr u1 := Grows.trans (by repeat' (first | (with_reducible exact Grows.refl _) | (with_reducible assumption) | (with_reducible refine Grows.alloc ?_ _) | (with_reducible refine Grows.drew ?_) | (with_reducible refine Grows.ext ?_ _ _))) s1)
          refine hK.out _ _ ?_ ?_
          · exact (by repeat' (first | (with_reducible exact Grows.refl _) | (with_reducible assumption) | (with_reducible refine Grows.alloc ?_ _) | (with_reducible refine Grows.drew ?_) | (with_reducible refine Grows.ext ?_ _ _)))
          clear hK K hHeld
          intro hHeld
          try simp only [Act.put, List.getElem_toArray, List.getElem_cons_succ, List.getElem_cons_zero, List.setIfInBounds_toArray, List.set_cons_zero, List.set_cons_succ]
          refine wpAnyH_ready (rs := [9]) (by kernel_rfl) (by simp) ?_
          refine AllReadyH.cons rfl (fun K hK => ?_) AllReadyH.nil
          simp only [List.getElem_toArray, List.getElem_cons_succ, List.getElem_cons_zero]
          go_simp
          (refine (HS2.out _ (Grows.trans G (Grows.trans p1 (by repeat' (first | (with_reducible exact Grows.refl _) | (with_reducible assumption) | (with_reducible refine Grows.alloc ?_ _) | (with_reducible refine Grows.drew ?_) | (with_reducible refine Grows.ext ?_ _ _)))))).mono ?_; rintro e u2 ⟨b2, d2, rfl, I2, s2⟩; have p2 : Grows wr u2 := Grows.trans p1 (Grows.trans (by repeat' (first | (with_reducible exact Grows.refl _) | (with_reducible assumption) | (with_reducible refine Grows.alloc ?_ _) | (with_reducible refine Grows.drew ?_) | (with_reducible refine Grows.ext ?_ _ _))) s2); have J1 := I1.grows (Grows.trans (by repeat' (first | (with_reducible exact Grows.refl _) | (with_reducible assumption) | (with_reducible refine Grows.alloc ?_ _) | (with_reducible refine Grows.drew ?_) | (with_reducible refine Grows.ext ?_ _ _))) s2); have p3 := Grows.trans G p2)
          refine hK.out _ _ ?_ ?_
          · exact (by repeat' (first | (with_reducible exact Grows.refl _) | (with_reducible assumption) | (with_reducible refine Grows.alloc ?_ _) | (with_reducible refine Grows.drew ?_) | (with_reducible refine Grows.ext ?_ _ _)))
          clear hK K hHeld
          intro hHeld
          try simp only [Act.put, List.getElem_toArray, List.getElem_cons_succ, List.getElem_cons_zero, List.setIfInBounds_toArray, List.set_cons_zero, List.set_cons_succ]
          refine wpAnyH_ready (rs := [10]) (by kernel_rfl) (by simp) ?_
          refine AllReadyH.cons rfl (fun K hK => ?_) AllReadyH.nil
          simp only [List.getElem_toArray, List.getElem_cons_succ, List.getElem_cons_zero]
          go_simp
          (refine (HIN.out _ _ _ _ _ (J1.grows (by repeat' (first | (with_reducible exact Grows.refl _) | (with_reducible assumption) | (with_reducible refine Grows.alloc ?_ _) | (with_reducible refine Grows.drew ?_) | (with_reducible refine Grows.ext ?_ _ _)))) (I2.grows (by repeat' (first | (with_reducible exact Grows.refl _) | (with_reducible assumption) | (with_reducible refine Grows.alloc ?_ _) | (with_reducible refine Grows.drew ?_) | (with_reducible refine Grows.ext ?_ _ _))))).mono ?_; rintro e u ⟨rfl, h3, d3, rfl⟩)
          refine hK.out _ _ ?_ ?_
          · exact (by repeat' (first | (with_reducible exact Grows.refl _) | (with_reducible assumption) | (with_reducible refine Grows.alloc ?_ _) | (with_reducible refine Grows.drew ?_) | (with_reducible refine Grows.ext ?_ _ _)))
          clear hK K hHeld
          intro hHeld
          try simp only [Act.put, List.getElem_toArray, List.getElem_cons_succ, List.getElem_cons_zero, List.setIfInBounds_toArray, List.set_cons_zero, List.set_cons_succ]
          refine wpAnyH_take (i := 11) (v := ?v12_11) rfl (by kernel_rfl) (by kernel_rfl) (by kernel_rfl) (fun _ _ _ h => h) (Or.inl ⟨by kernel_rfl, ?y12_11⟩) (by assumption) ?r12_11
          case y12_11 => (intro wS hSw; obtain ⟨hhS, ddS, rfl⟩ := hSw; go_simp; (try with_reducible rfl))
          try simp only [Act.put, List.getElem_toArray, List.getElem_cons_succ, List.getElem_cons_zero, List.setIfInBounds_toArray, List.set_cons_zero, List.set_cons_succ]
          refine wpAnyH_take (i := 12) (v := ?v13_12) rfl (by kernel_rfl) (by kernel_rfl) (by kernel_rfl) (fun _ _ _ h => h) (Or.inl ⟨by kernel_rfl, ?y13_12⟩) (by assumption) ?r13_12
          case y13_12 => (intro wS hSw; obtain ⟨hhS, ddS, rfl⟩ := hSw; go_simp; (try with_reducible rfl))
          try simp only [Act.put, List.getElem_toArray, List.getElem_cons_succ, List.getElem_cons_zero, List.setIfInBounds_toArray, List.set_cons_zero, List.set_cons_succ]
          refine wpAnyH_take (i := 13) (v := ?v14_13) rfl (by kernel_rfl) (by kernel_rfl) (by kernel_rfl) (fun _ _ _ h => h) (Or.inl ⟨by kernel_rfl, ?y14_13⟩) (by assumption) ?r14_13
          case y14_13 => (intro wS hSw; obtain ⟨hhS, ddS, rfl⟩ := hSw; go_simp; (try with_reducible rfl))
          try simp only [Act.put, List.getElem_toArray, List.getElem_cons_succ, List.getElem_cons_zero, List.setIfInBounds_toArray, List.set_cons_zero, List.set_cons_succ]
          refine wpAnyH_take (i := 14) (v := ?v15_14) rfl (by kernel_rfl) (by kernel_rfl) (by kernel_rfl) (fun _ _ _ h => h) (Or.inl ⟨by kernel_rfl, ?y15_14⟩) (by assumption) ?r15_14
          case y15_14 => (intro wS hSw; obtain ⟨hhS, ddS, rfl⟩ := hSw; go_simp; (try with_reducible rfl))
          try simp only [Act.put, List.getElem_toArray, List.getElem_cons_succ, List.getElem_cons_zero, List.setIfInBounds_toArray, List.set_cons_zero, List.set_cons_succ]
          refine wpAnyH_take (i := 15) (v := ?v16_15) rfl (by kernel_rfl) (by kernel_rfl) (by kernel_rfl) (fun _ _ _ h => h) (Or.inl ⟨by kernel_rfl, ?y16_15⟩) (by assumption) ?r16_15
          case y16_15 => (intro wS hSw; obtain ⟨hhS, ddS, rfl⟩ := hSw; go_simp; (try with_reducible rfl))
          try simp only [Act.put, List.getElem_toArray, List.getElem_cons_succ, List.getElem_cons_zero, List.setIfInBounds_toArray, List.set_cons_zero, List.set_cons_succ]
          refine wpAnyH_take (i := 16) (v := ?v17_16) rfl (by kernel_rfl) (by kernel_rfl) (by kernel_rfl) (fun _ _ _ h => h) (Or.inl ⟨by kernel_rfl, ?y17_16⟩) (by assumption) ?r17_16
          case y17_16 => (intro wS hSw; obtain ⟨hhS, ddS, rfl⟩ := hSw; go_simp; (try with_reducible rfl))
          try simp only [Act.put, List.getElem_toArray, List.getElem_cons_succ, List.getElem_cons_zero, List.setIfInBounds_toArray, List.set_cons_zero, List.set_cons_succ]
          refine wpAnyH_take (i := 18) (v := ?v18_18) rfl (by kernel_rfl) (by kernel_rfl) (by kernel_rfl) (fun _ _ _ h => h) (Or.inl ⟨by kernel_rfl, ?y18_18⟩) (by assumption) ?r18_18
          case y18_18 => (intro wS hSw; obtain ⟨hhS, ddS, rfl⟩ := hSw; go_simp; (try with_reducible rfl))
          try simp only [Act.put, List.getElem_toArray, List.getElem_cons_succ, List.getElem_cons_zero, List.setIfInBounds_toArray, List.set_cons_zero, List.set_cons_succ]
          refine wpAnyH_take (i := 19) (v := ?v19_19) rfl (by kernel_rfl) (by kernel_rfl) (by kernel_rfl) (fun _ _ _ h => h) (Or.inl ⟨by kernel_rfl, ?y19_19⟩) (by assumption) ?r19_19
          case y19_19 => (intro wS hSw; obtain ⟨hhS, ddS, rfl⟩ := hSw; go_simp; (try with_reducible rfl))
          try simp only [Act.put, List.getElem_toArray, List.getElem_cons_succ, List.getElem_cons_zero, List.setIfInBounds_toArray, List.set_cons_zero, List.set_cons_succ]
          refine wpAnyH_take (i := 20) (v := ?v20_20) rfl (by kernel_rfl) (by kernel_rfl) (by kernel_rfl) (fun _ _ _ h => h) (Or.inl ⟨by kernel_rfl, ?y20_20⟩) (by assumption) ?r20_20
          case y20_20 => (intro wS hSw; obtain ⟨hhS, ddS, rfl⟩ := hSw; go_simp; (try with_reducible rfl))
          try simp only [Act.put, List.getElem_toArray, List.getElem_cons_succ, List.getElem_cons_zero, List.setIfInBounds_toArray, List.set_cons_zero, List.set_cons_succ]
          refine wpAnyH_ready (rs := [17]) (by kernel_rfl) (by simp) ?_
          refine AllReadyH.cons rfl (fun K hK => ?_) AllReadyH.nil
          simp only [List.getElem_toArray, List.getElem_cons_succ, List.getElem_cons_zero]
          go_simp
          (refine (HA1.out _ (Grows.trans p3 (by repeat' (first | (with_reducible exact Grows.refl _) | (with_reducible assumption) | (with_reducible refine Grows.alloc ?_ _) | (with_reducible refine Grows.drew ?_) | (with_reducible refine Grows.ext ?_ _ _))))).mono ?_; rintro e u ⟨rfl, h4, d4, rfl⟩)
          refine hK.out _ _ ?_ ?_
          · exact (by repeat' (first | (with_reducible exact Grows.refl _) | (with_reducible assumption) | (with_reducible refine Grows.alloc ?_ _) | (with_reducible refine Grows.drew ?_) | (with_reducible refine Grows.ext ?_ _ _)))
          clear hK K hHeld
          intro hHeld
          try simp only [Act.put, List.getElem_toArray, List.getElem_cons_succ, List.getElem_cons_zero, List.setIfInBounds_toArray, List.set_cons_zero, List.set_cons_succ]
          refine wpAnyH_ready (rs := [21]) (by kernel_rfl) (by simp) ?_
          refine AllReadyH.cons rfl (fun K hK => ?_) AllReadyH.nil
          simp only [List.getElem_toArray, List.getElem_cons_succ, List.getElem_cons_zero]
          go_simp
          (refine (HA2.out _ (Grows.trans p3 (by repeat' (first | (with_reducible exact Grows.refl _) | (with_reducible assumption) | (with_reducible refine Grows.alloc ?_ _) | (with_reducible refine Grows.drew ?_) | (with_reducible refine Grows.ext ?_ _ _))))).mono ?_; rintro e u ⟨rfl, h5, d5, rfl⟩)
          refine hK.out _ _ ?_ ?_
          · exact (by repeat' (first | (with_reducible exact Grows.refl _) | (with_reducible assumption) | (with_reducible refine Grows.alloc ?_ _) | (with_reducible refine Grows.drew ?_) | (with_reducible refine Grows.ext ?_ _ _)))
          clear hK K hHeld
          intro hHeld
          try simp only [Act.put, List.getElem_toArray, List.getElem_cons_succ, List.getElem_cons_zero, List.setIfInBounds_toArray, List.set_cons_zero, List.set_cons_succ]
          refine wpAnyH_take (i := 22) (v := ?v23_22) rfl (by kernel_rfl) (by kernel_rfl) (by kernel_rfl) (fun _ _ _ h => h) (Or.inl ⟨by kernel_rfl, ?y23_22⟩) (by assumption) ?r23_22
          case y23_22 => (intro wS hSw; obtain ⟨hhS, ddS, rfl⟩ := hSw; go_simp; (try with_reducible rfl))
          try simp only [Act.put, List.getElem_toArray, List.getElem_cons_succ, List.getElem_cons_zero, List.setIfInBounds_toArray, List.set_cons_zero, List.set_cons_succ]
          refine wpAnyH_take (i := 23) (v := ?v24_23) rfl (by kernel_rfl) (by kernel_rfl) (by kernel_rfl) (fun _ _ _ h => h) (Or.inl ⟨by kernel_rfl, ?y24_23⟩) (by assumption) ?r24_23
          case y24_23 => (intro wS hSw; obtain ⟨hhS, ddS, rfl⟩ := hSw; go_simp; (try with_reducible rfl))
          try simp only [Act.put, List.getElem_toArray, List.getElem_cons_succ, List.getElem_cons_zero, List.setIfInBounds_toArray, List.set_cons_zero, List.set_cons_succ]
          refine wpAnyH_take (i := 24) (v := ?v25_24) rfl (by kernel_rfl) (by kernel_rfl) (by kernel_rfl) (fun _ _ _ h => h) (Or.inl ⟨by kernel_rfl, ?y25_24⟩) (by assumption) ?r25_24
          case y25_24 => (intro wS hSw; obtain ⟨hhS, ddS, rfl⟩ := hSw; go_simp; (try with_reducible rfl))
          try simp only [Act.put, List.getElem_toArray, List.getElem_cons_succ, List.getElem_cons_zero, List.setIfInBounds_toArray, List.set_cons_zero, List.set_cons_succ]
          refine wpAnyH_take (i := 25) (v := ?v26_25) rfl (by kernel_rfl) (by kernel_rfl) (by kernel_rfl) (fun _ _ _ h => h) (Or.inl ⟨by kernel_rfl, ?y26_25⟩) (by assumption) ?r26_25
          case y26_25 => (intro wS hSw; obtain ⟨hhS, ddS, rfl⟩ := hSw; go_simp; (try with_reducible rfl))
          try simp only [Act.put, List.getElem_toArray, List.getElem_cons_succ, List.getElem_cons_zero, List.setIfInBounds_toArray, List.set_cons_zero, List.set_cons_succ]
          refine wpAnyH_take (i := 26) (v := ?v27_26) rfl (by kernel_rfl) (by kernel_rfl) (by kernel_rfl) (fun _ _ _ h => h) (Or.inl ⟨by kernel_rfl, ?y27_26⟩) (by assumption) ?r27_26
          case y27_26 => (intro wS hSw; obtain ⟨hhS, ddS, rfl⟩ := hSw; go_simp; (try with_reducible rfl))
          try simp only [Act.put, List.getElem_toArray, List.getElem_cons_succ, List.getElem_cons_zero, List.setIfInBounds_toArray, List.set_cons_zero, List.set_cons_succ]
          refine wpAnyH_take (i := 27) (v := ?v28_27) rfl (by kernel_rfl) (by kernel_rfl) (by kernel_rfl) (fun _ _ _ h => h) (Or.inl ⟨by kernel_rfl, ?y28_27⟩) (by assumption) ?r28_27
          case y28_27 => (intro wS hSw; obtain ⟨hhS, ddS, rfl⟩ := hSw; go_simp; (try with_reducible rfl))
          try simp only [Act.put, List.getElem_toArray, List.getElem_cons_succ, List.getElem_cons_zero, List.setIfInBounds_toArray, List.set_cons_zero, List.set_cons_succ]
          refine wpAnyH_take (i := 29) (v := ?v29_29) rfl (by kernel_rfl) (by kernel_rfl) (by kernel_rfl) (fun _ _ _ h => h) (Or.inl ⟨by kernel_rfl, ?y29_29⟩) (by assumption) ?r29_29
          case y29_29 => (intro wS hSw; obtain ⟨hhS, ddS, rfl⟩ := hSw; go_simp; (try with_reducible rfl))
          try simp only [Act.put, List.getElem_toArray, List.getElem_cons_succ, List.getElem_cons_zero, List.setIfInBounds_toArray, List.set_cons_zero, List.set_cons_succ]
          refine wpAnyH_take (i := 30) (v := ?v30_30) rfl (by kernel_rfl) (by kernel_rfl) (by kernel_rfl) (fun _ _ _ h => h) (Or.inl ⟨by kernel_rfl, ?y30_30⟩) (by assumption) ?r30_30
          case y30_30 => (intro wS hSw; obtain ⟨hhS, ddS, rfl⟩ := hSw; go_simp; (try with_reducible rfl))
          try simp only [Act.put, List.getElem_toArray, List.getElem_cons_succ, List.getElem_cons_zero, List.setIfInBounds_toArray, List.set_cons_zero, List.set_cons_succ]
          refine wpAnyH_take (i := 31) (v := ?v31_31) rfl (by kernel_rfl) (by kernel_rfl) (by kernel_rfl) (fun _ _ _ h => h) (Or.inl ⟨by kernel_rfl, ?y31_31⟩) (by assumption) ?r31_31
          case y31_31 => (intro wS hSw; obtain ⟨hhS, ddS, rfl⟩ := hSw; go_simp; (try with_reducible rfl))
          try simp only [Act.put, List.getElem_toArray, List.getElem_cons_succ, List.getElem_cons_zero, List.setIfInBounds_toArray, List.set_cons_zero, List.set_cons_succ]
          refine wpAnyH_ready (rs := [28]) (by kernel_rfl) (by simp) ?_
          refine AllReadyH.cons rfl (fun K hK => ?_) AllReadyH.nil
          simp only [List.getElem_toArray, List.getElem_cons_succ, List.getElem_cons_zero]
          go_simp
          (refine (HA3.out _ (Grows.trans p3 (by repeat' (first | (with_reducible exact Grows.refl _) | (with_reducible assumption) | (with_reducible refine Grows.alloc ?_ _) | (with_reducible refine Grows.drew ?_) | (with_reducible refine Grows.ext ?_ _ _))))).mono ?_; rintro e u ⟨rfl, h6, d6, rfl⟩)
          refine hK.out _ _ ?_ ?_
          · exact (by repeat' (first | (with_reducible exact Grows.refl _) | (with_reducible assumption) | (with_reducible refine Grows.alloc ?_ _) | (with_reducible refine Grows.drew ?_) | (with_reducible refine Grows.ext ?_ _ _)))
          clear hK K hHeld
          intro hHeld
          try simp only [Act.put, List.getElem_toArray, List.getElem_cons_succ, List.getElem_cons_zero, List.setIfInBounds_toArray, List.set_cons_zero, List.set_cons_succ]
          refine wpAnyH_ready (rs := [32]) (by kernel_rfl) (by simp) ?_
          refine AllReadyH.cons rfl (fun K hK => ?_) AllReadyH.nil
          simp only [List.getElem_toArray, List.getElem_cons_succ, List.getElem_cons_zero]
          go_simp
          (refine (HA4.out _ (Grows.trans p3 (by repeat' (first | (with_reducible exact Grows.refl _) | (with_reducible assumption) | (with_reducible refine Grows.alloc ?_ _) | (with_reducible refine Grows.drew ?_) | (with_reducible refine Grows.ext ?_ _ _))))).mono ?_; rintro e u ⟨rfl, h7, d7, rfl⟩)
          refine hK.out _ _ ?_ ?_
          · exact (by repeat' (first | (with_reducible exact Grows.refl _) | (with_reducible assumption) | (with_reducible refine Grows.alloc ?_ _) | (with_reducible refine Grows.drew ?_) | (with_reducible refine Grows.ext ?_ _ _)))
          clear hK K hHeld
          intro hHeld
          try simp only [Act.put, List.getElem_toArray, List.getElem_cons_succ, List.getElem_cons_zero, List.setIfInBounds_toArray, List.set_cons_zero, List.set_cons_succ]
          refine wpAnyH_take (i := 33) (v := ?v34_33) rfl (by kernel_rfl) (by kernel_rfl) (by kernel_rfl) (fun _ _ _ h => h) (Or.inl ⟨by kernel_rfl, ?y34_33⟩) (by assumption) ?r34_33
          case y34_33 => (intro wS hSw; obtain ⟨hhS, ddS, rfl⟩ := hSw; go_simp; (try with_reducible rfl))
          try simp only [Act.put, List.getElem_toArray, List.getElem_cons_succ, List.getElem_cons_zero, List.setIfInBounds_toArray, List.set_cons_zero, List.set_cons_succ]
          refine wpAnyH_take (i := 34) (v := ?v35_34) rfl (by kernel_rfl) (by kernel_rfl) (by kernel_rfl) (fun _ _ _ h => h) (Or.inl ⟨by kernel_rfl, ?y35_34⟩) (by assumption) ?r35_34
          case y35_34 => (intro wS hSw; obtain ⟨hhS, ddS, rfl⟩ := hSw; go_simp; (try with_reducible rfl))
          try simp only [Act.put, List.getElem_toArray, List.getElem_cons_succ, List.getElem_cons_zero, List.setIfInBounds_toArray, List.set_cons_zero, List.set_cons_succ]
          refine wpAnyH_done (by kernel_rfl) ?_ _
          clear hHeld
          go_wp2
          go_roundw
          case rel => exact ⟨k + 1, by omega, by go_num, Grows.trans G (by repeat' (first | (with_reducible exact Grows.refl _) | (with_reducible assumption) | (with_reducible refine Grows.alloc ?_ _) | (with_reducible refine Grows.drew ?_) | (with_reducible refine Grows.ext ?_ _ _)))⟩
          case measure => simp [intOf]; omega
    · obtain ⟨z, hz, hiz⟩ := index27 n (wrap64 ((IntKind.u64.wrap n).tmod 84)) k (by omega)
      have e1 : decide ((k : Int) < 2) = true := by simp; omega
      have H1 := Lib.hid fun W => new_tot z W
      have H2 := Lib.hid fun W => rnew_tot z W
      have HS := Lib.hid (nL_length z)
      generalize nL z = S at *
      generalize nErr z = r at *
      have fr : (r != r) = false := by simp
      clear hz HA
      go_wp2_with (first | (go_at_call 26; (with_reducible refine (H1.out _).mono ?_); rintro e w4 ⟨b4, cb4, rfl, B4, g4⟩; have q4 := Grows.trans G g4) | (go_at_call 27; (with_reducible refine (H2.out _).mono ?_); rintro e w5 ⟨b5, cb5, rfl, B5, g5⟩; have q5 := Grows.trans q4 g5) | (go_at_call 18; (with_reducible refine (rsame_eq _ _ _ _ _ _ ((B4.grows g5).grows (by repeat' (first | (with_reducible exact Grows.refl _) | (with_reducible assumption) | (with_reducible refine Grows.alloc ?_ _) | (with_reducible refine Grows.drew ?_) | (with_reducible refine Grows.ext ?_ _ _)))) (B5.grows (by repeat' (first | (with_reducible exact Grows.refl _) | (with_reducible assumption) | (with_reducible refine Grows.alloc ?_ _) | (with_reducible refine Grows.drew ?_) | (with_reducible refine Grows.ext ?_ _ _)))) HS.out).mono ?_); rintro e w' ⟨rfl, h8, d8, rfl⟩))
      go_roundw
      case rel => exact ⟨k + 1, by omega, by go_num, (by repeat' (first | (with_reducible exact Grows.refl _) | (with_reducible assumption) | (with_reducible refine Grows.alloc ?_ _) | (with_reducible refine Grows.drew ?_) | (with_reducible refine Grows.ext ?_ _ _)))⟩
      case measure => simp [intOf]; omega
end Go.Proofs.Ytkkhcpddpnhemaa
