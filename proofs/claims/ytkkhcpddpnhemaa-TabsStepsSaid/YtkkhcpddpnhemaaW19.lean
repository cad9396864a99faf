/-
  Walk: the law TabsSteps.
-/
import Derived.Test.YtkkhcpddpnhemaaRows
import Derived.Test.YtkkhcpddpnhemaaLt
import Derived.Test.YtkkhcpddpnhemaaDefs
import Derived.Test.YtkkhcpddpnhemaaOwn
import Derived.Test.YtkkhcpddpnhemaaVis
import Derived.Test.YtkkhcpddpnhemaaW1
import Derived.Test.YtkkhcpddpnhemaaW2
import Derived.Test.YtkkhcpddpnhemaaW3
import Derived.Test.YtkkhcpddpnhemaaW4
import Derived.Test.YtkkhcpddpnhemaaW5
import Derived.Test.YtkkhcpddpnhemaaW6
import Derived.Test.YtkkhcpddpnhemaaW7
import Derived.Test.YtkkhcpddpnhemaaW11
import Derived.Test.YtkkhcpddpnhemaaW12
import Derived.Test.YtkkhcpddpnhemaaW13
import Derived.Test.YtkkhcpddpnhemaaW14
import Derived.Test.YtkkhcpddpnhemaaW15
import Derived.Test.YtkkhcpddpnhemaaW16
import Derived.Test.YtkkhcpddpnhemaaLaws
import Derived.WalkKit
import Derived.OwnWalk
import Derived.WalkSpells
import Derived.WalkLawsBesides
import Derived.Handy
import Derived.Outline
import Derived.Lib.Hide
import Derived.Deep.Light
import Derived.Deep.LoopGhost
import Derived.BigGuardPart
import Derived.BigQuiet
import Derived.Deep.QuietTactic
import Derived.Deep.DeepCutAuto
import Derived.Test.YtkkhcpddpnhemaaReg
namespace Go.Proofs.Ytkkhcpddpnhemaa
open Go.RowKit


theorem two_cells {w w1 : World} {v0 v1 : Value} {t : TypeId} {h : Array Obj} {d : Nat} (g : Grows (ext (w.alloc (.cells #[v0, v1] t)) h d) w1) : w1.cell? ⟨w.heap.size, 0, none⟩ = some v0 ∧ w1.cell? ⟨w.heap.size, 1, none⟩ = some v1 ∧ w.heap.size < w1.heap.size := by
  have g' : Grows (w.alloc (.cells #[v0, v1] t)) w1 := Grows.trans ⟨_, _, rfl⟩ g
  have hh : w1.heap[w.heap.size]? = some (.cells #[v0, v1] t (0, 0)) := (g'.below.block w.heap.size (by simp)).trans (World.alloc_heap_new w _)
  exact ⟨by rw [cell_of_row _ _ _ _ _ _ hh]; rfl, by rw [cell_of_row _ _ _ _ _ _ hh]; rfl, (Array.getElem?_eq_some_iff.1 hh).1⟩
set_option maxRecDepth 100000 in
set_option maxHeartbeats 8000000 in
theorem lawSteps_true (cc : Int) (hcc : 0 ≤ cc ∧ cc < 256) (a : Option Addr) (cap : Nat) (l : List Int) (hl : l.length ≤ 9223372036854775807) (co n0 n1 : Int) (hco : 0 ≤ co ∧ co < 256) (hn0 : 0 ≤ n0 ∧ n0 < 256) (hn1 : 0 ≤ n1 ∧ n1 < 256) (w : World) (ha : Us w a l) : Calls Try.prog 5 #[.int .u8 cc, .slice a l.length cap, .int .u8 co, .agg #[.int .u8 n0, .int .u8 n1]] w (Ret (.bool true) w) := by
  have HO := Lib.hid fun W (g : Grows w W) => of_any cc hcc a cap l hl W (by
    obtain ⟨h1, h2⟩ := ha
    refine ⟨h1, ?_⟩
    rcases h2 with h | ⟨b, off, e, hbl, hca⟩
    · exact .inl h
    · exact .inr ⟨b, off, e, Nat.lt_of_lt_of_le hbl g.below.size, fun j hj => (g.below.cell (p := ⟨b, off + j, none⟩) hbl).trans (hca j hj)⟩)
  clear ha hcc hl
  obtain ⟨hco1, hco2⟩ := hco
  obtain ⟨hn01, hn02⟩ := hn0
  obtain ⟨hn11, hn12⟩ := hn1
  go_enter Try.func5, Try.ntmps5
  go_upto_region 4 with (first | (go_at_call 15; refine (works_true _).mono ?_; rintro e w' ⟨rfl, h1, d1, rfl⟩) | (go_at_call 23; refine (HO.out _ (by repeat' (first | (with_reducible exact Grows.refl _) | (with_reducible assumption) | (with_reducible refine Grows.alloc ?_ _) | (with_reducible refine Grows.drew ?_) | (with_reducible refine Grows.ext ?_ _ _)))).mono ?_; rintro e w1 ⟨tb, n, tc, t, rfl, hn1, hn2, ht, HT, G1⟩))
  obtain ⟨c, hc⟩ : ∃ c : Nat, (c : Int) = co % n := ⟨(co % n).toNat, by have := Int.emod_nonneg co (show (n : Int) ≠ 0 by omega); omega⟩
  obtain ⟨x, hx⟩ : ∃ x : Nat, (x : Int) = n0 % 9 := ⟨(n0 % 9).toNat, by omega⟩
  obtain ⟨y, hy⟩ : ∃ y : Nat, (y : Int) = n1 % 9 := ⟨(n1 % 9).toNat, by omega⟩
  have hcn : c < n := by
    have := Int.emod_lt_of_pos co (show (0 : Int) < n by omega)
    omega
  have hx8 : x ≤ 8 := by omega
  have hy8 : y ≤ 8 := by omega
  have z0 : ¬ (n : Int) = 0 := by omega
  have HBs := Lib.hid HT.bs
  have G1' : Grows w w1 := Grows.trans (by repeat' (first | (with_reducible exact Grows.refl _) | (with_reducible assumption) | (with_reducible refine Grows.alloc ?_ _) | (with_reducible refine Grows.drew ?_) | (with_reducible refine Grows.ext ?_ _ _))) G1
  obtain ⟨r0, r1, r2⟩ := two_cells G1
  obtain ⟨m1, m2, m3, m4⟩ := nxt_all (t := t) x c (by omega)
  obtain ⟨k2, k3, k4⟩ := bck_all (t := t) x c (by omega)
  have HX1 := Lib.hid fun W (g : Grows w1 W) => lnext_ok tb n tc c x t ht W (HBs.out.grows g) ⟨hn1, hn2⟩ hcn (by omega)
  have HX2 := Lib.hid fun W (g : Grows w1 W) => lnext_ok tb n tc (nxt t x c) y t ht W (HBs.out.grows g) ⟨hn1, hn2⟩ (by omega) (by omega)
  have HX3 : Hid (∀ W, Grows w1 W → Calls Try.prog 24 #[.slice tb n tc, .int .i64 c, .int .i64 ((x : Int) + y)] W (Ret (.int .i64 (nxt t y (nxt t x c) : Nat)) W)) := Lib.hid fun W g => by
    have := lnext_ok tb n tc c (x + y) t ht W (HBs.out.grows g) ⟨hn1, hn2⟩ hcn (by omega)
    rwa [← m4 y, Int.natCast_add] at this
  have HB1 := Lib.hid fun W (g : Grows w1 W) => lback_ok tb n tc c x t ht W (HBs.out.grows g) ⟨hn1, hn2⟩ hcn (by omega)
  have HB2 := Lib.hid fun W (g : Grows w1 W) => lback_ok tb n tc (bck t x c) y t ht W (HBs.out.grows g) ⟨hn1, hn2⟩ (by omega) (by omega)
  have HB3 : Hid (∀ W, Grows w1 W → Calls Try.prog 25 #[.slice tb n tc, .int .i64 c, .int .i64 ((x : Int) + y)] W (Ret (.int .i64 (bck t y (bck t x c) : Nat)) W)) := Lib.hid fun W g => by
    have := lback_ok tb n tc c (x + y) t ht W (HBs.out.grows g) ⟨hn1, hn2⟩ hcn (by omega)
    rwa [← k4 y, Int.natCast_add] at this
  have HZ : Hid (x = 0 → nxt t x c = c ∧ bck t x c = c) := Lib.hid fun h => by subst h; exact ⟨nxt_zero, bck_zero⟩
  generalize nxt t y (nxt t x c) = R1 at *
  generalize bck t y (bck t x c) = R2 at *
  generalize nxt t x c = on at *
  generalize bck t x c = off at *
  obtain ⟨bb, oo, rfl, hbb, hcc⟩ := HBs.out.at (k := 0) (by omega)
  have c1 := hcc on (by omega)
  have c2 := hcc off (by omega)
  have HM : Hid (0 < x → t[on]?.getD false = true ∨ on = n - 1) := Lib.hid fun h => by rw [ht] at m3; exact m3 h
  have HK : Hid (0 < x → t[off]?.getD false = true ∨ off = 0) := Lib.hid k3
  have m2' : on < n := by omega
  have Hx := Lib.hid hx
  have Hy := Lib.hid hy
  have q0 : co % (n : Int) = c := hc.symm
  have f1 : decide (on < c) = false := by simp; omega
  have f2 : decide (n ≤ on) = false := by simp; omega
  have f3 : decide (c < off) = false := by simp; omega
  have f4 : decide ((off : Int) < 0) = false := by simp
  have f5 : decide ((on : Int) < c) = false := by simp; omega
  have f6 : decide ((n : Int) ≤ on) = false := by simp; omega
  have f7 : decide ((c : Int) < off) = false := by simp; omega
  generalize t[on]?.getD false = u1 at *
  generalize t[off]?.getD false = u2 at *
  clear HT G1 hcc m3 m4 k3 k4 hc ht HBs HO m2 hx hy
  go_upto_region 5 with fail
  simp only [q0]
  have q1 : n0 % 9 = x := Hx.out.symm
  have q2 : n0.tmod 9 = x := by rw [Int.tmod_eq_emod_of_nonneg hn01]; exact q1
  have q3 : n1 % 9 = y := Hy.out.symm
  have q4 : n1.tmod 9 = y := by rw [Int.tmod_eq_emod_of_nonneg hn11]; exact q3
  refine wp_region_grow (by kernel_rfl) (by kernel_rfl) ?_
  repeat (first | go_big_quiet_step ((fail)) | quiet_step ((fail)))
  refine wpQuiet_nil ?_
  rintro _ ⟨g1, rfl⟩
  clear q1 q2 q3 q4 q0
  go_upto_region 7 with (first | (go_at_call 24; (with_reducible refine (HX1.out _ (by repeat' (first | (with_reducible exact Grows.refl _) | (with_reducible assumption) | (with_reducible refine Grows.alloc ?_ _) | (with_reducible refine Grows.drew ?_) | (with_reducible refine Grows.ext ?_ _ _)))).mono ?_); rintro e w' ⟨rfl, h2, d2, rfl⟩) | (go_at_call 25; (with_reducible refine (HB1.out _ (by repeat' (first | (with_reducible exact Grows.refl _) | (with_reducible assumption) | (with_reducible refine Grows.alloc ?_ _) | (with_reducible refine Grows.drew ?_) | (with_reducible refine Grows.ext ?_ _ _)))).mono ?_); rintro e w' ⟨rfl, h3, d3, rfl⟩))
  go_upto_region 9 with (first | (go_at_call 24; (with_reducible refine (HX2.out _ (by repeat' (first | (with_reducible exact Grows.refl _) | (with_reducible assumption) | (with_reducible refine Grows.alloc ?_ _) | (with_reducible refine Grows.drew ?_) | (with_reducible refine Grows.ext ?_ _ _)))).mono ?_); rintro e w' ⟨rfl, h4, d4, rfl⟩) | (go_at_call 24; (with_reducible refine (HX3.out _ (by repeat' (first | (with_reducible exact Grows.refl _) | (with_reducible assumption) | (with_reducible refine Grows.alloc ?_ _) | (with_reducible refine Grows.drew ?_) | (with_reducible refine Grows.ext ?_ _ _)))).mono ?_); rintro e w' ⟨rfl, h5, d5, rfl⟩) | (go_at_call 25; (with_reducible refine (HB2.out _ (by repeat' (first | (with_reducible exact Grows.refl _) | (with_reducible assumption) | (with_reducible refine Grows.alloc ?_ _) | (with_reducible refine Grows.drew ?_) | (with_reducible refine Grows.ext ?_ _ _)))).mono ?_); rintro e w' ⟨rfl, h6, d6, rfl⟩) | (go_at_call 25; (with_reducible refine (HB3.out _ (by repeat' (first | (with_reducible exact Grows.refl _) | (with_reducible assumption) | (with_reducible refine Grows.alloc ?_ _) | (with_reducible refine Grows.drew ?_) | (with_reducible refine Grows.ext ?_ _ _)))).mono ?_); rintro e w' ⟨rfl, h7, d7, rfl⟩))
  clear HX1 HX2 HX3 HB1 HB2 HB3 f1 f2 f3 f4 f5 f6 f7
  have G2 : Grows w1 (ext w1 (g1.h ++ (h2 ++ (h3 ++ (h4 ++ (h5 ++ (h6 ++ h7)))))) d7) := (by repeat' (first | (with_reducible exact Grows.refl _) | (with_reducible assumption) | (with_reducible refine Grows.alloc ?_ _) | (with_reducible refine Grows.drew ?_) | (with_reducible refine Grows.ext ?_ _ _)))
  have GG := Lib.hid (Grows.trans G1' G2)
  clear G1' G2
  by_cases h0 : x = 0
  · obtain ⟨e1, e2⟩ := HZ.out h0
    subst h0
    have E1 : on = c := e1
    have E2 : off = c := e2
    subst E1
    have f8 : ((off : Int) == on) = true := by simp [E2]
    have f9 : ((on : Int) == on) = true := by simp
    clear e1 e2 E2 HZ HM HK
    go_wp2
    go_returns
    exact ⟨rfl, GG.out⟩
  · have f8 : ((x : Int) == 0) = false := by simp; omega
    have k1 := HM.out (by omega)
    have k2' := HK.out (by omega)
    have hon : (on : Int) < n := by omega
    have hoff : (off : Int) < n := by omega
    clear HZ HM HK h0
    cases u1 with
    | true =>
      clear k1
      cases u2 with
      | true =>
        clear k2'
        go_wp2
        go_returns
        exact ⟨rfl, GG.out⟩
      | false =>
        have hz : off = 0 := by simpa using k2'
        have f9 : ((off : Int) == 0) = true := by simp [hz]
        clear hz k2'
        go_wp2
        go_returns
        exact ⟨rfl, GG.out⟩
    | false =>
      have hz : on = n - 1 := by simpa using k1
      have f10 : ((on : Int) == (n : Int) - 1) = true := by simp; omega
      clear hz k1
      cases u2 with
      | true =>
        clear k2'
        go_wp2
        go_returns
        exact ⟨rfl, GG.out⟩
      | false =>
        have hz : off = 0 := by simpa using k2'
        have f9 : ((off : Int) == 0) = true := by simp [hz]
        clear hz k2'
        go_wp2
        go_returns
        exact ⟨rfl, GG.out⟩
end Go.Proofs.Ytkkhcpddpnhemaa
