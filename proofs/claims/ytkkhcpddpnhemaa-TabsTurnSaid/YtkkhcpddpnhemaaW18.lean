/-
  Walk: the law TabsTurn.
-/
import Derived.Test.YtkkhcpddpnhemaaRows
import Derived.Test.YtkkhcpddpnhemaaLt
import Derived.Test.YtkkhcpddpnhemaaDefs
import Derived.Test.YtkkhcpddpnhemaaOwn
import Derived.Test.YtkkhcpddpnhemaaVis
import Derived.Test.YtkkhcpddpnhemaaW1
import Derived.Test.YtkkhcpddpnhemaaW2
import Derived.Test.YtkkhcpddpnhemaaW3
import Derived.Test.YtkkhcpddpnhemaaW4
import Derived.Test.YtkkhcpddpnhemaaW5
import Derived.Test.YtkkhcpddpnhemaaW6
import Derived.Test.YtkkhcpddpnhemaaW7
import Derived.Test.YtkkhcpddpnhemaaW11
import Derived.Test.YtkkhcpddpnhemaaW12
import Derived.Test.YtkkhcpddpnhemaaW13
import Derived.Test.YtkkhcpddpnhemaaW14
import Derived.Test.YtkkhcpddpnhemaaW15
import Derived.Test.YtkkhcpddpnhemaaW16
import Derived.WalkKit
import Derived.OwnWalk
import Derived.WalkSpells
import Derived.WalkLawsBesides
import Derived.Handy
import Derived.Outline
import Derived.Lib.Hide
import Derived.Deep.Light
import Derived.Deep.LoopGhost
import Derived.BigGuardPart
import Derived.BigQuiet
import Derived.Deep.QuietTactic
import Derived.Deep.DeepCutAuto
import Derived.Test.YtkkhcpddpnhemaaReg
namespace Go.Proofs.Ytkkhcpddpnhemaa
open Go.RowKit


set_option maxRecDepth 100000 in
set_option maxHeartbeats 8000000 in
theorem lawTurn_true (cc : Int) (hcc : 0 ≤ cc ∧ cc < 256) (a : Option Addr) (cap : Nat) (l : List Int) (hl : l.length ≤ 9223372036854775807) (at0 : Option Addr) (capt : Nat) (tl : List Bool) (htl : tl.length ≤ 9223372036854775807) (hcap : tl.length ≤ capt) (hcap2 : capt ≤ 9223372036854775807) (n : Int) (on : Bool) (w : World) (ha : Us w a l) (hb : Bs w at0 tl) : Calls Try.prog 4 #[.int .u8 cc, .slice a l.length cap, .slice at0 tl.length capt, .int .i64 n, .bool on] w (Ret (.bool true) w) := by
  have HA := Lib.hid (all_any cc hcc a cap l hl at0 capt tl htl hcap hcap2 w ha hb)
  clear ha hb hcc hl htl hcap hcap2
  go_enter Try.func4, Try.ntmps4
  go_wp2_with (go_at_call 10; refine HA.out.mono ?_; rintro e w1 ⟨a1, n1, c1, t1, a2, n2, c2, t2, a3, c3, rfl, hn1, hn2, ht1, hB1, ht2, hm2, hB2, hB3, G1⟩)
  have HI := Lib.hid fun k hk => index24 (W := w1) a1 a2 a3 n1 n2 n1 c1 c2 c3 t1 t2 (newL n1) hB1 hB2 hB3 ht1 ht2 (by simp) (by omega) (by omega) (by omega) k hk
  clear HA hn1 hn2 ht1 hB1 ht2 hm2 hB2 hB3
  go_loopw [31] (fun i wr => ∃ k : Nat, k ≤ 3 ∧ i = .int .i64 k ∧ Grows w1 wr) (fun i _ => 3 - (intOf i).toNat)
  case atStart => exact ⟨0, by omega, rfl, Grows.refl _⟩
  case round =>
    obtain ⟨k, hk, rfl, G⟩ := hrel
    by_cases hk3 : k = 3
    · subst hk3
      go_wp2_with (go_at_call 15; refine (works_true _).mono ?_; rintro e w' ⟨rfl, h1, d1, rfl⟩)
      go_returns
      exact ⟨rfl, Grows.trans G1 (Grows.trans G (by repeat' (first | (with_reducible exact Grows.refl _) | (with_reducible assumption) | (with_reducible refine Grows.alloc ?_ _) | (with_reducible refine Grows.drew ?_) | (with_reducible refine Grows.ext ?_ _ _))))⟩
    · obtain ⟨ax, nx, cx, lx, hBx, hlx, hnx, hix⟩ := HI.out k (by omega)
      have e1 : decide ((k : Int) < 3) = true := by simp; omega
      have HB := Lib.hid hBx
      have HL := Lib.hid hlx
      have HZ := Lib.hid (zL_length nx hnx)
      have HN := Lib.hid fun W => none_tot ax nx cx W
      have HRN := Lib.hid fun W => rnone_tot ax nx cx W
      generalize zL nx = Z at *
      generalize tErr nx = r1 at *
      clear hBx hlx
      go_wp2_with (first | (go_at_call 16; refine (HN.out _).mono ?_; rintro e w2 ⟨b1, cb1, rfl, BN1, g2⟩) | (go_at_call 17; refine (HRN.out _).mono ?_; rintro e w3 ⟨b2, cb2, rfl, BN2, g3⟩) | (go_at_call 18; refine (rsame_eq _ _ _ _ _ _ (BN1.grows g3) BN2 HZ.out).mono ?_; rintro e w' ⟨rfl, h4, d4, rfl⟩))
      have G3 := Grows.trans G (Grows.trans g2 g3)
      clear BN1 BN2 g2 g3 HN HRN HZ
      go_loopw [59] (fun i wr => ∃ j : Nat, j ≤ 2 ∧ i = .int .i64 j ∧ Grows w1 wr) (fun i _ => 2 - (intOf i).toNat)
      case atStart => exact ⟨0, by omega, rfl, (by repeat' (first | (with_reducible exact Grows.refl _) | (with_reducible assumption) | (with_reducible refine Grows.alloc ?_ _) | (with_reducible refine Grows.drew ?_) | (with_reducible refine Grows.ext ?_ _ _)))⟩
      case round =>
        clear G G3
        obtain ⟨j, hj, rfl, G⟩ := hrel
        by_cases hj2 : j = 2
        · subst hj2
          go_wp2
          go_roundw
          case rel => exact ⟨k + 1, by omega, by go_num, G⟩
          case measure => simp [intOf]; omega
        · obtain ⟨z, hz, hiz⟩ := index27 n (wrap64 ((IntKind.u64.wrap n).tmod 84)) j (by omega)
          have e2 : decide ((j : Int) < 2) = true := by simp; omega
          have H1 := Lib.hid fun W (gg : Grows w1 W) => set_tot ax nx cx lx HL.out z on W (HB.out.grows gg)
          have H2 := Lib.hid fun W (gg : Grows w1 W) => rset_tot ax nx cx lx HL.out z on W (HB.out.grows gg)
          have H3 := Lib.hid fun W (gg : Grows w1 W) => resize_tot ax nx cx lx HL.out z W (HB.out.grows gg)
          have H4 := Lib.hid fun W (gg : Grows w1 W) => rresize_tot ax nx cx lx HL.out z W (HB.out.grows gg)
          have HS := Lib.hid (sL_length lx nx HL.out hnx z on)
          have HR := Lib.hid (rL_length lx nx z)
          generalize sL lx nx z on = S at *
          generalize rL lx nx z = R at *
          generalize wErr nx z = r2 at *
          generalize rErr nx z = r3 at *
          clear hz HL HB
          go_wp2_with (first | (go_at_call 19; (with_reducible refine (H1.out _ G).mono ?_); rintro e w4 ⟨b4, cb4, rfl, B4, g4⟩; have q4 := Grows.trans G g4) | (go_at_call 20; (with_reducible refine (H2.out _ q4).mono ?_); rintro e w5 ⟨b5, cb5, rfl, B5, g5⟩; have q5 := Grows.trans q4 g5) | (go_at_call 21; (with_reducible refine (H3.out _ q5).mono ?_); rintro e w6 ⟨b6, cb6, rfl, B6, g6⟩; have q6 := Grows.trans q5 g6) | (go_at_call 22; (with_reducible refine (H4.out _ q6).mono ?_); rintro e w7 ⟨b7, cb7, rfl, B7, g7⟩; have q7 := Grows.trans q6 g7; have S4 := B4.grows (Grows.trans g5 (Grows.trans g6 g7)); have S5 := B5.grows (Grows.trans g6 g7); have S6 := B6.grows g7) | (go_at_call 18; (with_reducible refine (rsame_eq _ _ _ _ _ _ (S4.grows (by repeat' (first | (with_reducible exact Grows.refl _) | (with_reducible assumption) | (with_reducible refine Grows.alloc ?_ _) | (with_reducible refine Grows.drew ?_) | (with_reducible refine Grows.ext ?_ _ _)))) (S5.grows (by repeat' (first | (with_reducible exact Grows.refl _) | (with_reducible assumption) | (with_reducible refine Grows.alloc ?_ _) | (with_reducible refine Grows.drew ?_) | (with_reducible refine Grows.ext ?_ _ _)))) HS.out).mono ?_); rintro e w' ⟨rfl, h8, d8, rfl⟩) | (go_at_call 18; (with_reducible refine (rsame_eq _ _ _ _ _ _ (S6.grows (by repeat' (first | (with_reducible exact Grows.refl _) | (with_reducible assumption) | (with_reducible refine Grows.alloc ?_ _) | (with_reducible refine Grows.drew ?_) | (with_reducible refine Grows.ext ?_ _ _)))) (B7.grows (by repeat' (first | (with_reducible exact Grows.refl _) | (with_reducible assumption) | (with_reducible refine Grows.alloc ?_ _) | (with_reducible refine Grows.drew ?_) | (with_reducible refine Grows.ext ?_ _ _)))) HR.out).mono ?_); rintro e w' ⟨rfl, h9, d9, rfl⟩))
          go_roundw
          case rel => exact ⟨j + 1, by omega, by go_num, (by repeat' (first | (with_reducible exact Grows.refl _) | (with_reducible assumption) | (with_reducible refine Grows.alloc ?_ _) | (with_reducible refine Grows.drew ?_) | (with_reducible refine Grows.ext ?_ _ _)))⟩
          case measure => simp [intOf]; omega
end Go.Proofs.Ytkkhcpddpnhemaa
