/-
  Walk: the law TabsThere.
-/
import Derived.Test.YtkkhcpddpnhemaaRows
import Derived.Test.YtkkhcpddpnhemaaLt
import Derived.Test.YtkkhcpddpnhemaaDefs
import Derived.Test.YtkkhcpddpnhemaaOwn
import Derived.Test.YtkkhcpddpnhemaaVis
import Derived.Test.YtkkhcpddpnhemaaW1
import Derived.Test.YtkkhcpddpnhemaaW2
import Derived.Test.YtkkhcpddpnhemaaW3
import Derived.Test.YtkkhcpddpnhemaaW4
import Derived.Test.YtkkhcpddpnhemaaW5
import Derived.Test.YtkkhcpddpnhemaaW6
import Derived.Test.YtkkhcpddpnhemaaW7
import Derived.Test.YtkkhcpddpnhemaaW11
import Derived.Test.YtkkhcpddpnhemaaW12
import Derived.Test.YtkkhcpddpnhemaaW13
import Derived.Test.YtkkhcpddpnhemaaW14
import Derived.Test.YtkkhcpddpnhemaaW15
import Derived.Test.YtkkhcpddpnhemaaW16
import Derived.Test.YtkkhcpddpnhemaaLaws
import Derived.WalkKit
import Derived.OwnWalk
import Derived.WalkSpells
import Derived.WalkLawsBesides
import Derived.Handy
import Derived.Outline
import Derived.Lib.Hide
import Derived.Deep.Light
import Derived.Deep.LoopGhost
import Derived.BigGuardPart
import Derived.BigQuiet
import Derived.Deep.QuietTactic
import Derived.Deep.DeepCutAuto
import Derived.Test.YtkkhcpddpnhemaaReg
namespace Go.Proofs.Ytkkhcpddpnhemaa
open Go.RowKit


set_option maxRecDepth 100000 in
set_option maxHeartbeats 8000000 in
theorem lawThere_true (cc : Int) (hcc : 0 ≤ cc ∧ cc < 256) (a : Option Addr) (cap : Nat) (l : List Int) (hl : l.length ≤ 9223372036854775807) (co : Int) (hco : 0 ≤ co ∧ co < 256) (w : World) (ha : Us w a l) : Calls Try.prog 6 #[.int .u8 cc, .slice a l.length cap, .int .u8 co] w (Ret (.bool true) w) := by
  have HO := Lib.hid fun W (g : Grows w W) => of_any cc hcc a cap l hl W (by
    obtain ⟨h1, h2⟩ := ha
    refine ⟨h1, ?_⟩
    rcases h2 with h | ⟨b, off, e, hbl, hca⟩
    · exact .inl h
    · exact .inr ⟨b, off, e, Nat.lt_of_lt_of_le hbl g.below.size, fun j hj => (g.below.cell (p := ⟨b, off + j, none⟩) hbl).trans (hca j hj)⟩)
  clear ha hcc hl
  obtain ⟨hco1, hco2⟩ := hco
  go_enter Try.func6, Try.ntmps6
  go_upto_region 4 with (first | (go_at_call 15; refine (works_true _).mono ?_; rintro e w' ⟨rfl, h1, d1, rfl⟩) | (go_at_call 23; refine (HO.out _ (by repeat' (first | (with_reducible exact Grows.refl _) | (with_reducible assumption) | (with_reducible refine Grows.alloc ?_ _) | (with_reducible refine Grows.drew ?_) | (with_reducible refine Grows.ext ?_ _ _)))).mono ?_; rintro e w1 ⟨tb, n, tc, t, rfl, hn1, hn2, ht, HT, G1⟩))
  obtain ⟨c, hc⟩ : ∃ c : Nat, (c : Int) = co % n := ⟨(co % n).toNat, by have := Int.emod_nonneg co (show (n : Int) ≠ 0 by omega); omega⟩
  have hcn : c < n := by
    have := Int.emod_lt_of_pos co (show (0 : Int) < n by omega)
    omega
  have z0 : ¬ (n : Int) = 0 := by omega
  have HBs := Lib.hid HT.bs
  have G1' : Grows w w1 := Grows.trans (by repeat' (first | (with_reducible exact Grows.refl _) | (with_reducible assumption) | (with_reducible refine Grows.alloc ?_ _) | (with_reducible refine Grows.drew ?_) | (with_reducible refine Grows.ext ?_ _ _))) G1
  have hct : c < t.length := by omega
  obtain ⟨m1, m2, -, -, -⟩ := nxt_one (t := t) hct
  have k2 := (bck_one (t := t) c).1
  have HX1 : Hid (∀ W, Grows w1 W → Calls Try.prog 24 #[.slice tb n tc, .int .i64 c, .int .i64 1] W (Ret (.int .i64 (nxt t 1 c : Nat)) W)) := Lib.hid fun W (g : Grows w1 W) => lnext_ok tb n tc c 1 t ht W (HBs.out.grows g) ⟨hn1, hn2⟩ hcn (by omega)
  have HB1 : Hid (∀ W, Grows w1 W → Calls Try.prog 25 #[.slice tb n tc, .int .i64 c, .int .i64 1] W (Ret (.int .i64 (bck t 1 c : Nat)) W)) := Lib.hid fun W (g : Grows w1 W) => lback_ok tb n tc c 1 t ht W (HBs.out.grows g) ⟨hn1, hn2⟩ hcn (by omega)
  have HB2 : Hid (∀ W, Grows w1 W → Calls Try.prog 25 #[.slice tb n tc, .int .i64 (nxt t 1 c : Nat), .int .i64 1] W (Ret (.int .i64 (bck t 1 (nxt t 1 c) : Nat)) W)) := Lib.hid fun W (g : Grows w1 W) => lback_ok tb n tc (nxt t 1 c) 1 t ht W (HBs.out.grows g) ⟨hn1, hn2⟩ (by omega) (by omega)
  have HNB : Hid (∀ i, bck t 1 c < i → i < nxt t 1 c → t[i]?.getD false = true → i = c) := Lib.hid fun i h1 h2 h3 => no_between hct h1 h2 h3
  have HAB : Hid (t[c]?.getD false = true → nxt t 1 c = c ∨ bck t 1 (nxt t 1 c) = c) := Lib.hid fun h => and_back hct h
  rw [ht] at m2
  generalize bck t 1 (nxt t 1 c) = R at *
  generalize nxt t 1 c = on at *
  generalize bck t 1 c = off at *
  obtain ⟨bb, oo, rfl, hbb, hcc⟩ := HBs.out.at (k := 0) (by omega)
  have HCC := Lib.hid hcc
  have HT2 := Lib.hid ht
  have q0 : co % (n : Int) = c := hc.symm
  have f1 : decide (on < c) = false := by simp; omega
  have f2 : decide (n ≤ on) = false := by simp; omega
  have f3 : decide (c < off) = false := by simp; omega
  have f4 : decide ((off : Int) < 0) = false := by simp
  clear HT G1 hcc hc ht HBs HO hct
  go_upto_region 5 with fail
  simp only [q0]
  clear q0
  go_wp2_with (first | (go_at_call 24; (with_reducible refine (HX1.out _ (by repeat' (first | (with_reducible exact Grows.refl _) | (with_reducible assumption) | (with_reducible refine Grows.alloc ?_ _) | (with_reducible refine Grows.drew ?_) | (with_reducible refine Grows.ext ?_ _ _)))).mono ?_); rintro e w' ⟨rfl, h2, d2, rfl⟩) | (go_at_call 25; (with_reducible refine (HB1.out _ (by repeat' (first | (with_reducible exact Grows.refl _) | (with_reducible assumption) | (with_reducible refine Grows.alloc ?_ _) | (with_reducible refine Grows.drew ?_) | (with_reducible refine Grows.ext ?_ _ _)))).mono ?_); rintro e w' ⟨rfl, h3, d3, rfl⟩))
  clear HX1 HB1 f1 f2 f3 f4
  go_loopw [11] (fun i wr => ∃ p : Nat, i = .int .i64 p ∧ off < p ∧ (p ≤ on ∨ p ≤ off + 1) ∧ Grows w1 wr) (fun i _ => on - (intOf i).toNat)
  case atStart => exact ⟨off + 1, by go_num, by omega, by omega, (by repeat' (first | (with_reducible exact Grows.refl _) | (with_reducible assumption) | (with_reducible refine Grows.alloc ?_ _) | (with_reducible refine Grows.drew ?_) | (with_reducible refine Grows.ext ?_ _ _)))⟩
  case round =>
    obtain ⟨p, rfl, hp1, hp2, G⟩ := hrel
    by_cases hlt : p < on
    · have c1 := HCC.out p (by have := HT2.out; omega)
      have HP := Lib.hid (HNB.out p hp1 hlt)
      have hi1 : (p : Int) < n := by omega
      have hi2 : (p : Int) < on := by omega
      have e1 : decide ((p : Int) < on) = true := by simp; omega
      have e2 : decide (p < on) = true := by simp; omega
      have c2 := (G.below.cell (p := ⟨bb, oo + p, none⟩) hbb).trans c1
      clear c1
      generalize t[p]?.getD false = u at *
      cases u with
      | true =>
        have hpc := HP.out rfl
        have f8 : ((p : Int) != c) = false := by simp [hpc]
        clear HP hpc
        go_wp2
        go_roundw
        case rel => exact ⟨p + 1, by go_num, by omega, by omega, G⟩
        case measure => simp [intOf]; omega
      | false =>
        clear HP
        go_wp2
        go_roundw
        case rel => exact ⟨p + 1, by go_num, by omega, by omega, G⟩
        case measure => simp [intOf]; omega
    · have e1 : decide ((p : Int) < on) = false := by simp; omega
      have e2 : decide (p < on) = false := by simp; omega
      have c1 := HCC.out c (by have := HT2.out; omega)
      have c2 := (G.below.cell (p := ⟨bb, oo + c, none⟩) hbb).trans c1
      have hi1 : (c : Int) < n := by omega
      have GG := Lib.hid (Grows.trans G1' G)
      clear c1 G1'
      generalize t[c]?.getD false = u at *
      cases u with
      | false =>
        clear HAB
        go_wp2
        go_returns
        exact ⟨rfl, GG.out⟩
      | true =>
        have hab := HAB.out rfl
        clear HAB
        by_cases hoc : on = c
        · have f8 : ((on : Int) == c) = true := by simp [hoc]
          clear hab hoc
          go_wp2
          go_returns
          exact ⟨rfl, GG.out⟩
        · have hR : R = c := by omega
          have f8 : ((on : Int) == c) = false := by simp; omega
          have f9 : ((R : Int) == c) = true := by simp [hR]
          clear hab hR hoc
          go_wp2_with (go_at_call 25; (with_reducible refine (HB2.out _ G).mono ?_); rintro e w' ⟨rfl, h4, d4, rfl⟩)
          go_returns
          exact ⟨rfl, Grows.trans GG.out (by repeat' (first | (with_reducible exact Grows.refl _) | (with_reducible assumption) | (with_reducible refine Grows.alloc ?_ _) | (with_reducible refine Grows.drew ?_) | (with_reducible refine Grows.ext ?_ _ _)))⟩
end Go.Proofs.Ytkkhcpddpnhemaa
