/-
  Walk: the law TabsTell.
-/
import Derived.Test.YtkkhcpddpnhemaaRows
import Derived.Test.YtkkhcpddpnhemaaLt
import Derived.Test.YtkkhcpddpnhemaaDefs
import Derived.Test.YtkkhcpddpnhemaaOwn
import Derived.Test.YtkkhcpddpnhemaaVis
import Derived.Test.YtkkhcpddpnhemaaW1
import Derived.Test.YtkkhcpddpnhemaaW2
import Derived.Test.YtkkhcpddpnhemaaW3
import Derived.Test.YtkkhcpddpnhemaaW4
import Derived.Test.YtkkhcpddpnhemaaW5
import Derived.Test.YtkkhcpddpnhemaaW6
import Derived.Test.YtkkhcpddpnhemaaW7
import Derived.Test.YtkkhcpddpnhemaaW11
import Derived.Test.YtkkhcpddpnhemaaW12
import Derived.Test.YtkkhcpddpnhemaaW13
import Derived.Test.YtkkhcpddpnhemaaW14
import Derived.Test.YtkkhcpddpnhemaaW15
import Derived.Test.YtkkhcpddpnhemaaW16
import Derived.WalkKit
import Derived.OwnWalk
import Derived.WalkSpells
import Derived.WalkLawsBesides
import Derived.Handy
import Derived.Outline
import Derived.Lib.Hide
import Derived.Deep.Light
import Derived.Deep.LoopGhost
import Derived.BigGuardPart
import Derived.BigQuiet
import Derived.Deep.QuietTactic
import Derived.Deep.DeepCutAuto
import Derived.Test.YtkkhcpddpnhemaaReg
namespace Go.Proofs.Ytkkhcpddpnhemaa
open Go.RowKit


theorem wrap64_lt (x : Int) : wrap64 x < 9223372036854775808 := by unfold wrap64; omega
set_option maxRecDepth 100000 in
set_option maxHeartbeats 8000000 in
theorem lawTell_true (cc : Int) (hcc : 0 ≤ cc ∧ cc < 256) (a : Option Addr) (cap : Nat) (l : List Int) (hl : l.length ≤ 9223372036854775807) (at0 : Option Addr) (capt : Nat) (tl : List Bool) (htl : tl.length ≤ 9223372036854775807) (hcap : tl.length ≤ capt) (hcap2 : capt ≤ 9223372036854775807) (col n : Int) (hcol : -9223372036854775808 ≤ col ∧ col < 9223372036854775808) (hn : -9223372036854775808 ≤ n ∧ n < 9223372036854775808) (w : World) (ha : Us w a l) (hb : Bs w at0 tl) : Calls Try.prog 3 #[.int .u8 cc, .slice a l.length cap, .slice at0 tl.length capt, .int .i64 col, .int .i64 n] w (Ret (.bool true) w) := by
  have HA := Lib.hid (all_any cc hcc a cap l hl at0 capt tl htl hcap hcap2 w ha hb)
  clear ha hb hcc hl htl hcap hcap2
  go_enter Try.func3, Try.ntmps3
  go_wp2_with (go_at_call 10; refine HA.out.mono ?_; rintro e w1 ⟨a1, n1, c1, t1, a2, n2, c2, t2, a3, c3, rfl, hn1, hn2, ht1, hB1, ht2, hm2, hB2, hB3, G1⟩)
  have HI := Lib.hid fun k hk => index24 (W := w1) a1 a2 a3 n1 n2 n1 c1 c2 c3 t1 t2 (newL n1) hB1 hB2 hB3 ht1 ht2 (by simp) (by omega) (by omega) (by omega) k hk
  clear HA hn1 hn2 ht1 hB1 ht2 hm2 hB2 hB3
  go_loopw [29] (fun i wr => ∃ k : Nat, k ≤ 3 ∧ i = .int .i64 k ∧ ∃ x : Gr, wr = ext w1 x.h x.d) (fun i _ => 3 - (intOf i).toNat)
  case atStart => exact ⟨0, by omega, rfl, Gr.mk #[] w1.drawn, by simp [ext, Gr.mk, Gr.h, Gr.d]⟩
  case round =>
    obtain ⟨k, hk, rfl, g, rfl⟩ := hrel
    by_cases hk3 : k = 3
    · subst hk3
      go_wp2_with (go_at_call 15; refine (works_true _).mono ?_; rintro e w' ⟨rfl, h1, d1, rfl⟩)
      go_returns
      exact ⟨rfl, Grows.trans G1 (by repeat' (first | (with_reducible exact Grows.refl _) | (with_reducible assumption) | (with_reducible refine Grows.alloc ?_ _) | (with_reducible refine Grows.drew ?_) | (with_reducible refine Grows.ext ?_ _ _)))⟩
    · obtain ⟨ax, nx, cx, lx, hBx, hlx, hnx, hix⟩ := HI.out k (by omega)
      have e1 : decide ((k : Int) < 3) = true := by simp; omega
      have HB := Lib.hid hBx
      have HL := Lib.hid hlx
      clear hBx hlx
      go_wp2
      go_loopw [38] (fun i wr => ∃ j : Nat, j ≤ 2 ∧ i = .int .i64 j ∧ ∃ x : Gr, wr = ext w1 x.h x.d) (fun i _ => 2 - (intOf i).toNat)
      case atStart => exact ⟨0, by omega, rfl, g, rfl⟩
      case round =>
        obtain ⟨j, hj, rfl, g2, rfl⟩ := hrel
        by_cases hj2 : j = 2
        · subst hj2
          go_wp2
          go_roundw
          case rel => exact ⟨k + 1, by omega, by go_num, g2, rfl⟩
          case measure => simp [intOf]; omega
        · obtain ⟨z, hz, hiz⟩ := index27 col (wrap64 ((IntKind.u64.wrap col).tmod 82)) j (by omega)
          have e2 : decide ((j : Int) < 2) = true := by simp; omega
          clear hz
          go_wp2
          go_loopw [47] (fun i wr => ∃ m : Nat, m ≤ 3 ∧ i = .int .i64 m ∧ ∃ x : Gr, wr = ext w1 x.h x.d) (fun i _ => 3 - (intOf i).toNat)
          case atStart => exact ⟨0, by omega, rfl, g2, rfl⟩
          case round =>
            obtain ⟨m, hm, rfl, g3, rfl⟩ := hrel
            by_cases hm3 : m = 3
            · subst hm3
              go_wp2
              go_roundw
              case rel => exact ⟨j + 1, by omega, by go_num, g3, rfl⟩
              case measure => simp [intOf]; omega
            · obtain ⟨y, hy, hiy⟩ := index28 n (wrap64 ((IntKind.u64.wrap n).tmod 7)) 1 m (by omega)
              have e3 : decide ((m : Int) < 3) = true := by simp; omega
              have hy2 : y < 9223372036854775808 := by
                rcases hy with rfl | rfl | rfl
                · exact hn.2
                · exact wrap64_lt _
                · omega
              have H1 := Lib.hid fun W (gg : Grows w1 W) => next_tot ax nx cx lx HL.out hnx z y hy2 W (HB.out.grows gg)
              have H2 := Lib.hid fun W (gg : Grows w1 W) => rnext_tot ax nx cx lx HL.out hnx z y hy2 W (HB.out.grows gg)
              have H3 := Lib.hid fun W (gg : Grows w1 W) => back_tot ax nx cx lx HL.out hnx z y hy2 W (HB.out.grows gg)
              have H4 := Lib.hid fun W (gg : Grows w1 W) => rback_tot ax nx cx lx HL.out hnx z y hy2 W (HB.out.grows gg)
              generalize nV lx nx z y = r1 at *
              generalize bV lx nx z y = r2 at *
              generalize mErr nx z y = r3 at *
              clear hy hy2 HL HB
              go_wp2_with (first | (go_at_call 11; (with_reducible refine (H1.out _ (by repeat' (first | (with_reducible exact Grows.refl _) | (with_reducible assumption) | (with_reducible refine Grows.alloc ?_ _) | (with_reducible refine Grows.drew ?_) | (with_reducible refine Grows.ext ?_ _ _)))).mono ?_); rintro e w' ⟨rfl, h1, d1, rfl⟩) | (go_at_call 12; (with_reducible refine (H2.out _ (by repeat' (first | (with_reducible exact Grows.refl _) | (with_reducible assumption) | (with_reducible refine Grows.alloc ?_ _) | (with_reducible refine Grows.drew ?_) | (with_reducible refine Grows.ext ?_ _ _)))).mono ?_); rintro e w' ⟨rfl, h2, d2, rfl⟩) | (go_at_call 13; (with_reducible refine (H3.out _ (by repeat' (first | (with_reducible exact Grows.refl _) | (with_reducible assumption) | (with_reducible refine Grows.alloc ?_ _) | (with_reducible refine Grows.drew ?_) | (with_reducible refine Grows.ext ?_ _ _)))).mono ?_); rintro e w' ⟨rfl, h3, d3, rfl⟩) | (go_at_call 14; (with_reducible refine (H4.out _ (by repeat' (first | (with_reducible exact Grows.refl _) | (with_reducible assumption) | (with_reducible refine Grows.alloc ?_ _) | (with_reducible refine Grows.drew ?_) | (with_reducible refine Grows.ext ?_ _ _)))).mono ?_); rintro e w' ⟨rfl, h4, d4, rfl⟩))
              go_roundw
              case rel => exact ⟨m + 1, by omega, by go_num, Gr.mk (g3.h ++ (h1 ++ (h2 ++ (h3 ++ h4)))) d4, rfl⟩
              case measure => simp [intOf]; omega
end Go.Proofs.Ytkkhcpddpnhemaa
