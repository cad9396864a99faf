/-
  LayoutOrders.
-/
import Derived.Test.YtbobpgegkmcapaaRows
import Derived.Test.YtbobpgegkmcapaaM1
import Derived.Test.YtbobpgegkmcapaaM2
import Derived.Test.YtbobpgegkmcapaaM5
import Derived.Test.YtbobpgegkmcapaaM8
import Derived.Test.YtbobpgegkmcapaaM9
import Derived.Test.YtbobpgegkmcapaaM12
import Derived.Test.YtbobpgegkmcapaaM14
import Derived.Test.YtbobpgegkmcapaaM17
import Derived.WalkKit
import Derived.WalkSpells
import Derived.WalkLawsBesides
import Derived.Handy
import Derived.Laws.Rows
import Derived.Great.BuildSlice
import Derived.Deep.Heap
import Derived.IntWalk
import Derived.Lib.Hide
import Derived.Outline
import Derived.Deep.Light
import Derived.Deep.LoopGhost
import Derived.BigGuardPart
import Derived.BigQuiet
import Derived.Deep.QuietTactic
import Derived.Deep.RegionHeld3
import Derived.Deep.DeepCutAuto
import Derived.Deep.CutBlock
import Derived.OwnWalk
import Derived.Maps.AppendAt
namespace Go.Proofs.Ytbobpgegkmcapaa
open Go.RowKit

theorem u64_small (n : Nat) (h : n ≤ 1000) : IntKind.u64.wrap (n : Int) = n := by
  simp [IntKind.wrap, IntKind.signed, IntKind.bits]
  omega
theorem u64_nonneg (t : Int) : 0 ≤ IntKind.u64.wrap t := by
  simp [IntKind.wrap, IntKind.signed, IntKind.bits]
  omega
theorem uidx (t : Int) {pn : Nat} (h1 : 1 ≤ pn) (h2 : pn ≤ 1000) : ∃ z : Nat, z < pn ∧ wrap64 ((IntKind.u64.wrap t).tmod (pn : Int)) = (z : Int) := by
  have g0 := u64_nonneg t
  have g1 : 0 ≤ (IntKind.u64.wrap t).tmod pn := Int.tmod_nonneg _ g0
  have g2 : (IntKind.u64.wrap t).tmod pn < pn := Int.tmod_lt_of_pos _ (by omega)
  refine ⟨((IntKind.u64.wrap t).tmod pn).toNat, by omega, ?_⟩
  rw [Int.toNat_of_nonneg g1]
  generalize (IntKind.u64.wrap t).tmod ↑pn = y at *
  simp [wrap64]
  omega
/-- A layout in a block of its own. -/
structure LyB (W : World) (p : Nat) (L : Lay) (k1 : Option Addr) (c1 : Nat) (k2 : Option Addr) (c2 : Nat) : Prop where
  l : LayAt AnyB W L (.slice k1 L.kids.length c1) (.slice k2 L.ws.length c2)
  b : Blk W p 25 #[.int .i64 L.kind, .int .i64 L.pane, .slice k1 L.kids.length c1, .slice k2 L.ws.length c2]
theorem LyB.next {W W' : World} {p : Nat} {L : Lay} {k1 : Option Addr} {c1 : Nat} {k2 : Option Addr} {c2 : Nat} (h : LyB W p L k1 c1 k2 c2) (g : Grows W W') : LyB W' p L k1 c1 k2 c2 := ⟨h.l.grows g, h.b.grows g⟩
theorem resize_cases {L : Lay} (hr : rightL L = true) {p kind delta : Int} (hp : p ∈ panesL L) : ∃ y e, resizeF L p kind delta = (y, e) ∧ ((e = 0 ∧ rightL y = true ∧ panesL y = panesL L) ∨ e = 2) := by
  unfold resizeF
  rw [if_neg (by rw [hr]; decide), if_neg (fun h => h hp)]
  split
  · exact ⟨_, _, rfl, .inr rfl⟩
  · split
    · rename_i h
      exact ⟨_, _, rfl, .inl ⟨rfl, resize_right hr h⟩⟩
    · exact ⟨_, _, rfl, .inr rfl⟩
theorem even_yes {L : Lay} (hr : rightL L = true) : evenF L = (evenL L, 0) := by
  unfold evenF
  rw [if_neg (by rw [hr]; decide)]
theorem swap_yes {L : Lay} (hr : rightL L = true) {x y : Int} (hx : x ∈ panesL L) (hy : y ∈ panesL L) : swapF L x y = (swapL x y L, 0) := by
  unfold swapF
  rw [if_neg (by rw [hr]; decide), if_neg (fun h => h.elim (fun g => g hx) (fun g => g hy))]
theorem swap_mem {L : Lay} {x y : Int} (hx : x ∈ panesL L) (hy : y ∈ panesL L) : x ∈ panesL (swapL x y L) ∧ y ∈ panesL (swapL x y L) := by
  rw [swap_panes]
  refine ⟨List.mem_map.2 ⟨y, hy, ?_⟩, List.mem_map.2 ⟨x, hx, ?_⟩⟩
  · unfold swapP
    split
    · assumption
    · rw [if_pos rfl]
  · unfold swapP
    rw [if_pos rfl]
set_option maxRecDepth 100000 in
set_option maxHeartbeats 4000000 in
theorem orders_true (xs : List Edt) (at_ kind delta other : Int) (a : Option Addr) (n c : Nat) (w : World) (hn : xs.length = n) (hnc : n ≤ c) (hnm : n ≤ 9223372036854775807) (h : CellsAt 5 w (.slice a n c) n (edC xs)) : Calls Try.prog 7 #[.slice a n c, .int .i64 at_, .int .i64 kind, .int .i64 delta, .int .i64 other] w (Ret (.bool true) w) := by
  have HGR := Lib.hid fun W (g : Grows w W) => grown_any xs a n c W hn hnc hnm (h.grows g)
  obtain ⟨L, hL⟩ : ∃ z, growF xs = z := ⟨_, rfl⟩
  have hr := right_grow xs
  rw [hL] at HGR hr
  have hpp := panes_pos L (rightL_iff.1 hr).1
  have hp16 := (rightL_iff.1 hr).2.1
  obtain ⟨pl, hpl⟩ : ∃ z, panesL L = z := ⟨_, rfl⟩
  obtain ⟨pn, hpn⟩ : ∃ z, pl.length = z := ⟨_, rfl⟩
  rw [hpl, hpn] at hpp hp16
  have HPL := Lib.hid (And.intro hpl hpn)
  have HR := Lib.hid hr
  have hT := Grows.refl w
  clear h hL hr hpl hpn hn
  go_enter Try.func7, Try.ntmps7
  go_upto_region 4 with (first | (go_at_call 9; (with_reducible refine (wakes_any _).mono ?_); rintro e wq ⟨rfl, hq⟩; have hT0 := hT; clear hT; have hT := hT0.trans (Grows.trans (by repeat' (first | (with_reducible exact Grows.refl _) | (with_reducible refine Grows.alloc ?_ _) | (with_reducible refine Grows.drew ?_) | (with_reducible refine Grows.ext ?_ _ _))) hq); clear hT0 hq; skip) | (go_at_call 26; (go_must (with_reducible refine (HGR.out _ (hT.trans (by repeat' (first | (with_reducible exact Grows.refl _) | (with_reducible refine Grows.alloc ?_ _) | (with_reducible refine Grows.drew ?_) | (with_reducible refine Grows.ext ?_ _ _))))).mono ?_)); rintro e wq hE; obtain ⟨ka, kc, wa, wc, rfl, hly, hq⟩ := hE.open_; have hT0 := hT; clear hT; have hT := hT0.trans (Grows.trans (by repeat' (first | (with_reducible exact Grows.refl _) | (with_reducible refine Grows.alloc ?_ _) | (with_reducible refine Grows.drew ?_) | (with_reducible refine Grows.ext ?_ _ _))) hq); clear hT0 hq hE))
  refine abs_worldM (fun W => Grows w W ∧ LyB W wq.heap.size L ka kc wa wc) ⟨hT.trans (by repeat' (first | (with_reducible exact Grows.refl _) | (with_reducible refine Grows.alloc ?_ _) | (with_reducible refine Grows.drew ?_) | (with_reducible refine Grows.ext ?_ _ _))), hly.grows (by repeat' (first | (with_reducible exact Grows.refl _) | (with_reducible refine Grows.alloc ?_ _) | (with_reducible refine Grows.drew ?_) | (with_reducible refine Grows.ext ?_ _ _))), Blk.new (by simp)⟩ ?_
  clear hT hly
  generalize wq.heap.size = p1 at *
  rintro W1 ⟨hT, hf⟩
  have F1 := Lib.hid hf
  obtain ⟨a0, a1, a2, a3⟩ := hf.b.four
  have hl_a := hf.b.lt
  have HT := Lib.hid hT
  clear hT hf
  go_upto_region 5 with (go_at_call 20; (go_must (with_reducible refine (panesP_yes L HR.out _ _ _ (F1.out.l.grows (by repeat' (first | (with_reducible exact Grows.refl _) | (with_reducible refine Grows.alloc ?_ _) | (with_reducible refine Grows.drew ?_) | (with_reducible refine Grows.ext ?_ _ _))))).mono ?_)); rintro e w2 ⟨v2, rfl, hv2, hg2⟩; rw [HPL.out.1] at hv2; obtain ⟨va, vc, rfl, -, -⟩ := hv2.shape HPL.out.2)
  refine abs_worldM (fun W => Grows W1 W ∧ IntsAt AnyB W (.slice va pn vc) pl) ⟨Grows.trans (by repeat' (first | (with_reducible exact Grows.refl _) | (with_reducible refine Grows.alloc ?_ _) | (with_reducible refine Grows.drew ?_) | (with_reducible refine Grows.ext ?_ _ _))) hg2, hv2.grows (by repeat' (first | (with_reducible exact Grows.refl _) | (with_reducible refine Grows.alloc ?_ _) | (with_reducible refine Grows.drew ?_) | (with_reducible refine Grows.ext ?_ _ _)))⟩ ?_
  clear hg2 hv2
  rintro W2 ⟨hg, hv2⟩
  have HT0 := HT
  clear HT
  have HT := Lib.hid (HT0.out.trans hg)
  clear HT0
  have F1x := F1
  clear F1 a0 a1 a2 a3 hl_a
  have F1 := Lib.hid (F1x.out.next hg)
  clear F1x
  obtain ⟨a0, a1, a2, a3⟩ := F1.out.b.four
  have hl_a := F1.out.b.lt
  obtain ⟨va', vc', e, -, -, hvi⟩ := hv2.open_ HPL.out.2
  injection e with e1 e2 e3
  subst e1 e3
  have hpn0 : ¬ (pn : Int) = 0 := by omega
  obtain ⟨z1, hz1, ez1⟩ := uidx at_ hpp (show pn ≤ 1000 by omega)
  obtain ⟨z2, hz2, ez2⟩ := uidx other hpp (show pn ≤ 1000 by omega)
  obtain ⟨pb, poff, q1, rfl, hpb, -, hq1, hqm1, c1⟩ := hvi.at_ (i := z1) (by rw [HPL.out.2]; exact hz1)
  obtain ⟨pb', poff', q2, e, -, -, hq2, hqm2, c2⟩ := hvi.at_ (i := z2) (by rw [HPL.out.2]; exact hz2)
  cases e
  rw [← HPL.out.1] at hqm1 hqm2
  obtain ⟨y1, n1, hrz, hrc⟩ := resize_cases HR.out (kind := kind) (delta := delta) hqm1
  have HRZ := Lib.hid hrz
  have HRC := Lib.hid hrc
  have HSW := Lib.hid (swap_yes HR.out hqm1 hqm2)
  have hokL := (rightL_iff.1 HR.out).1
  have HSR := Lib.hid (swap_right (pane_range hokL _ hqm1) (pane_range hokL _ hqm2) HR.out)
  have HSB := Lib.hid (show swapF (swapL q1 q2 L) q1 q2 = (L, 0) by rw [swap_yes HSR.out (swap_mem hqm1 hqm2).1 (swap_mem hqm1 hqm2).2, swap_twice])
  have HEV := Lib.hid (even_yes HR.out)
  have HER := Lib.hid (even_right HR.out)
  have HEE := Lib.hid (show evenF (evenL L) = (evenL L, 0) by rw [even_yes HER.out, even_twice])
  have HEP := Lib.hid (even_panes L)
  have HV2 := Lib.hid fun W (g : Grows W2 W) => hv2.grows g
  have HCE := Lib.hid fun W (g : Grows W2 W) => (⟨Nat.lt_of_lt_of_le hpb g.size, (g.cellOf hpb).trans c1, (g.cellOf hpb).trans c2⟩ : _ ∧ _ ∧ _)
  obtain ⟨V, hV⟩ : ∃ z, evenL L = z := ⟨_, rfl⟩
  obtain ⟨T, hT⟩ : ∃ z, swapL q1 q2 L = z := ⟨_, rfl⟩
  rw [hV] at HEV HER HEE HEP
  rw [hT] at HSW HSR HSB
  clear hv2 hvi hg hq1 hq2 hqm1 hqm2 hrz hrc hokL hV hT
  have hU := Grows.refl W2
  go_upto_region 9 with (go_at_call 30; (go_must (with_reducible refine (resizeF_any L q1 kind delta _ _ _ (fun _ _ => trivial) (F1.out.l.grows (by repeat' (first | (with_reducible exact Grows.refl _) | (with_reducible refine Grows.alloc ?_ _) | (with_reducible refine Grows.drew ?_) | (with_reducible refine Grows.ext ?_ _ _))))).mono ?_)); rintro e wA hE; obtain ⟨kA, cA, mA, dA, rfl, hly, hq⟩ := hE.pair HRZ.out)
  refine abs_worldM (fun W => Grows W2 W ∧ LyB W wA.heap.size y1 kA cA mA dA) ⟨Grows.trans (Grows.trans (by repeat' (first | (with_reducible exact Grows.refl _) | (with_reducible refine Grows.alloc ?_ _) | (with_reducible refine Grows.drew ?_) | (with_reducible refine Grows.ext ?_ _ _))) hq) (by repeat' (first | (with_reducible exact Grows.refl _) | (with_reducible refine Grows.alloc ?_ _) | (with_reducible refine Grows.drew ?_) | (with_reducible refine Grows.ext ?_ _ _))), hly.grows (by repeat' (first | (with_reducible exact Grows.refl _) | (with_reducible refine Grows.alloc ?_ _) | (with_reducible refine Grows.drew ?_) | (with_reducible refine Grows.ext ?_ _ _))), Blk.new (by simp)⟩ ?_
  clear hq hly hE
  generalize wA.heap.size = p2 at *
  rintro W3 ⟨hg, hf⟩
  have F2 := Lib.hid hf
  obtain ⟨b0, b1, b2, b3⟩ := hf.b.four
  have hl_b := hf.b.lt
  clear hf
  have HT0 := HT
  clear HT
  have HT := Lib.hid (HT0.out.trans hg)
  clear HT0
  have F1x := F1
  clear F1 a0 a1 a2 a3 hl_a
  have F1 := Lib.hid (F1x.out.next hg)
  clear F1x
  obtain ⟨a0, a1, a2, a3⟩ := F1.out.b.four
  have hl_a := F1.out.b.lt
  have hUx := hU.trans hg
  clear hU hg c1 c2 hpb
  have hU := hUx
  clear hUx
  obtain ⟨hpb, c1, c2⟩ := HCE.out _ hU
  go_upto_region 10 with (go_at_call 31; (go_must (with_reducible refine (evenF_any L _ _ _ (fun _ _ => trivial) (F1.out.l.grows (by repeat' (first | (with_reducible exact Grows.refl _) | (with_reducible refine Grows.alloc ?_ _) | (with_reducible refine Grows.drew ?_) | (with_reducible refine Grows.ext ?_ _ _))))).mono ?_)); rintro e wB hE; obtain ⟨kB, cB, mB, dB, rfl, hly, hq⟩ := hE.pair HEV.out)
  refine abs_worldM (fun W => Grows W3 W ∧ LyB W wB.heap.size V kB cB mB dB) ⟨Grows.trans (Grows.trans (by repeat' (first | (with_reducible exact Grows.refl _) | (with_reducible refine Grows.alloc ?_ _) | (with_reducible refine Grows.drew ?_) | (with_reducible refine Grows.ext ?_ _ _))) hq) (by repeat' (first | (with_reducible exact Grows.refl _) | (with_reducible refine Grows.alloc ?_ _) | (with_reducible refine Grows.drew ?_) | (with_reducible refine Grows.ext ?_ _ _))), hly.grows (by repeat' (first | (with_reducible exact Grows.refl _) | (with_reducible refine Grows.alloc ?_ _) | (with_reducible refine Grows.drew ?_) | (with_reducible refine Grows.ext ?_ _ _))), Blk.new (by simp)⟩ ?_
  clear hq hly hE
  generalize wB.heap.size = p3 at *
  rintro W4 ⟨hg, hf⟩
  have F3 := Lib.hid hf
  obtain ⟨d0, d1, d2, d3⟩ := hf.b.four
  have hl_d := hf.b.lt
  clear hf
  have HT0 := HT
  clear HT
  have HT := Lib.hid (HT0.out.trans hg)
  clear HT0
  have F1x := F1
  clear F1 a0 a1 a2 a3 hl_a
  have F1 := Lib.hid (F1x.out.next hg)
  clear F1x
  obtain ⟨a0, a1, a2, a3⟩ := F1.out.b.four
  have hl_a := F1.out.b.lt
  have F2x := F2
  clear F2 b0 b1 b2 b3 hl_b
  have F2 := Lib.hid (F2x.out.next hg)
  clear F2x
  obtain ⟨b0, b1, b2, b3⟩ := F2.out.b.four
  have hl_b := F2.out.b.lt
  have hUx := hU.trans hg
  clear hU hg c1 c2 hpb
  have hU := hUx
  clear hUx
  obtain ⟨hpb, c1, c2⟩ := HCE.out _ hU
  go_upto_region 12 with (go_at_call 32; (go_must (with_reducible refine (swapF_any L q1 q2 _ _ _ (fun _ _ => trivial) (F1.out.l.grows (by repeat' (first | (with_reducible exact Grows.refl _) | (with_reducible refine Grows.alloc ?_ _) | (with_reducible refine Grows.drew ?_) | (with_reducible refine Grows.ext ?_ _ _))))).mono ?_)); rintro e wC hE; obtain ⟨kC, cC, mC, dC, rfl, hly, hq⟩ := hE.pair HSW.out)
  refine abs_worldM (fun W => Grows W4 W ∧ LyB W wC.heap.size T kC cC mC dC) ⟨Grows.trans (Grows.trans (by repeat' (first | (with_reducible exact Grows.refl _) | (with_reducible refine Grows.alloc ?_ _) | (with_reducible refine Grows.drew ?_) | (with_reducible refine Grows.ext ?_ _ _))) hq) (by repeat' (first | (with_reducible exact Grows.refl _) | (with_reducible refine Grows.alloc ?_ _) | (with_reducible refine Grows.drew ?_) | (with_reducible refine Grows.ext ?_ _ _))), hly.grows (by repeat' (first | (with_reducible exact Grows.refl _) | (with_reducible refine Grows.alloc ?_ _) | (with_reducible refine Grows.drew ?_) | (with_reducible refine Grows.ext ?_ _ _))), Blk.new (by simp)⟩ ?_
  clear hq hly hE
  generalize wC.heap.size = p4 at *
  rintro W5 ⟨hg, hf⟩
  have F4 := Lib.hid hf
  obtain ⟨f0, f1, f2, f3⟩ := hf.b.four
  have hl_f := hf.b.lt
  clear hf
  have HT0 := HT
  clear HT
  have HT := Lib.hid (HT0.out.trans hg)
  clear HT0
  have F1x := F1
  clear F1 a0 a1 a2 a3 hl_a
  have F1 := Lib.hid (F1x.out.next hg)
  clear F1x
  obtain ⟨a0, a1, a2, a3⟩ := F1.out.b.four
  have hl_a := F1.out.b.lt
  have F2x := F2
  clear F2 b0 b1 b2 b3 hl_b
  have F2 := Lib.hid (F2x.out.next hg)
  clear F2x
  obtain ⟨b0, b1, b2, b3⟩ := F2.out.b.four
  have hl_b := F2.out.b.lt
  have F3x := F3
  clear F3 d0 d1 d2 d3 hl_d
  have F3 := Lib.hid (F3x.out.next hg)
  clear F3x
  obtain ⟨d0, d1, d2, d3⟩ := F3.out.b.four
  have hl_d := F3.out.b.lt
  have hUx := hU.trans hg
  clear hU hg c1 c2 hpb
  have hU := hUx
  clear hUx
  obtain ⟨hpb, c1, c2⟩ := HCE.out _ hU
  go_upto_region 13 with (go_at_call 32; (go_must (with_reducible refine (swapF_any T q1 q2 _ _ _ (fun _ _ => trivial) (F4.out.l.grows (by repeat' (first | (with_reducible exact Grows.refl _) | (with_reducible refine Grows.alloc ?_ _) | (with_reducible refine Grows.drew ?_) | (with_reducible refine Grows.ext ?_ _ _))))).mono ?_)); rintro e wD hE; obtain ⟨kD, cD, mD, dD, rfl, hly, hq⟩ := hE.pair HSB.out)
  refine abs_worldM (fun W => Grows W5 W ∧ LyB W wD.heap.size L kD cD mD dD) ⟨Grows.trans (Grows.trans (by repeat' (first | (with_reducible exact Grows.refl _) | (with_reducible refine Grows.alloc ?_ _) | (with_reducible refine Grows.drew ?_) | (with_reducible refine Grows.ext ?_ _ _))) hq) (by repeat' (first | (with_reducible exact Grows.refl _) | (with_reducible refine Grows.alloc ?_ _) | (with_reducible refine Grows.drew ?_) | (with_reducible refine Grows.ext ?_ _ _))), hly.grows (by repeat' (first | (with_reducible exact Grows.refl _) | (with_reducible refine Grows.alloc ?_ _) | (with_reducible refine Grows.drew ?_) | (with_reducible refine Grows.ext ?_ _ _))), Blk.new (by simp)⟩ ?_
  clear hq hly hE
  generalize wD.heap.size = p5 at *
  rintro W6 ⟨hg, hf⟩
  have F5 := Lib.hid hf
  obtain ⟨g0, g1, g2, g3⟩ := hf.b.four
  have hl_g := hf.b.lt
  clear hf
  have HT0 := HT
  clear HT
  have HT := Lib.hid (HT0.out.trans hg)
  clear HT0
  have F1x := F1
  clear F1 a0 a1 a2 a3 hl_a
  have F1 := Lib.hid (F1x.out.next hg)
  clear F1x
  obtain ⟨a0, a1, a2, a3⟩ := F1.out.b.four
  have hl_a := F1.out.b.lt
  have F2x := F2
  clear F2 b0 b1 b2 b3 hl_b
  have F2 := Lib.hid (F2x.out.next hg)
  clear F2x
  obtain ⟨b0, b1, b2, b3⟩ := F2.out.b.four
  have hl_b := F2.out.b.lt
  have F3x := F3
  clear F3 d0 d1 d2 d3 hl_d
  have F3 := Lib.hid (F3x.out.next hg)
  clear F3x
  obtain ⟨d0, d1, d2, d3⟩ := F3.out.b.four
  have hl_d := F3.out.b.lt
  have F4x := F4
  clear F4 f0 f1 f2 f3 hl_f
  have F4 := Lib.hid (F4x.out.next hg)
  clear F4x
  obtain ⟨f0, f1, f2, f3⟩ := F4.out.b.four
  have hl_f := F4.out.b.lt
  have hUx := hU.trans hg
  clear hU hg c1 c2 hpb
  have hU := hUx
  clear hUx
  obtain ⟨hpb, c1, c2⟩ := HCE.out _ hU
  clear c1 c2 hpb HCE f0 f1 f2 f3 hl_f
  rcases HRC.out with ⟨rfl, h1, h2⟩ | rfl
  · have H12 := Lib.hid (And.intro h1 h2)
    go_upto_region 15 with (first | (go_at_call 20; (go_must (with_reducible refine (panesP_yes y1 h1 _ _ _ (F2.out.l.grows (by repeat' (first | (with_reducible exact Grows.refl _) | (with_reducible refine Grows.alloc ?_ _) | (with_reducible refine Grows.drew ?_) | (with_reducible refine Grows.ext ?_ _ _))))).mono ?_)); rintro e w2 ⟨v5, rfl, hv5, hq⟩; rw [h2, HPL.out.1] at hv5; have hqq := Grows.trans (by repeat' (first | (with_reducible exact Grows.refl _) | (with_reducible refine Grows.alloc ?_ _) | (with_reducible refine Grows.drew ?_) | (with_reducible refine Grows.ext ?_ _ _))) hq) | (go_at_call 21; (go_must (with_reducible refine (wk_q _ _ _ _ (hv5.grows (by repeat' (first | (with_reducible exact Grows.refl _) | (with_reducible refine Grows.alloc ?_ _) | (with_reducible refine Grows.drew ?_) | (with_reducible refine Grows.ext ?_ _ _)))) (HV2.out _ (hU.trans (hqq.trans (by repeat' (first | (with_reducible exact Grows.refl _) | (with_reducible refine Grows.alloc ?_ _) | (with_reducible refine Grows.drew ?_) | (with_reducible refine Grows.ext ?_ _ _))))))).mono ?_)); rintro e w3 ⟨rfl, hq2⟩; have hqz := hqq.trans (Grows.trans (by repeat' (first | (with_reducible exact Grows.refl _) | (with_reducible refine Grows.alloc ?_ _) | (with_reducible refine Grows.drew ?_) | (with_reducible refine Grows.ext ?_ _ _))) hq2)))
    refine abs_worldM (fun W => Grows W6 W) (hqz.trans (by repeat' (first | (with_reducible exact Grows.refl _) | (with_reducible refine Grows.alloc ?_ _) | (with_reducible refine Grows.drew ?_) | (with_reducible refine Grows.ext ?_ _ _)))) ?_
    clear hqq hqz hq hq2 hv5 h1 h2
    rintro W7 hg
    have HT0 := HT
    clear HT
    have HT := Lib.hid (HT0.out.trans hg)
    clear HT0
    have F1x := F1
    clear F1 a0 a1 a2 a3 hl_a
    have F1 := Lib.hid (F1x.out.next hg)
    clear F1x
    obtain ⟨a0, a1, a2, a3⟩ := F1.out.b.four
    have hl_a := F1.out.b.lt
    have F3x := F3
    clear F3 d0 d1 d2 d3 hl_d
    have F3 := Lib.hid (F3x.out.next hg)
    clear F3x
    obtain ⟨d0, d1, d2, d3⟩ := F3.out.b.four
    have hl_d := F3.out.b.lt
    have F5x := F5
    clear F5 g0 g1 g2 g3 hl_g
    have F5 := Lib.hid (F5x.out.next hg)
    clear F5x
    obtain ⟨g0, g1, g2, g3⟩ := F5.out.b.four
    have hl_g := F5.out.b.lt
    have hUx := hU.trans hg
    clear hU hg
    have hU := hUx
    clear hUx
    go_upto_region 16 with (go_at_call 31; (go_must (with_reducible refine (evenF_any V _ _ _ (fun _ _ => trivial) (F3.out.l.grows (by repeat' (first | (with_reducible exact Grows.refl _) | (with_reducible refine Grows.alloc ?_ _) | (with_reducible refine Grows.drew ?_) | (with_reducible refine Grows.ext ?_ _ _))))).mono ?_)); rintro e wE hE; obtain ⟨kE, cE, mE, dE, rfl, hly, hq⟩ := hE.pair HEE.out)
    refine abs_worldM (fun W => Grows W7 W ∧ LyB W wE.heap.size V kE cE mE dE) ⟨Grows.trans (Grows.trans (by repeat' (first | (with_reducible exact Grows.refl _) | (with_reducible refine Grows.alloc ?_ _) | (with_reducible refine Grows.drew ?_) | (with_reducible refine Grows.ext ?_ _ _))) hq) (by repeat' (first | (with_reducible exact Grows.refl _) | (with_reducible refine Grows.alloc ?_ _) | (with_reducible refine Grows.drew ?_) | (with_reducible refine Grows.ext ?_ _ _))), hly.grows (by repeat' (first | (with_reducible exact Grows.refl _) | (with_reducible refine Grows.alloc ?_ _) | (with_reducible refine Grows.drew ?_) | (with_reducible refine Grows.ext ?_ _ _))), Blk.new (by simp)⟩ ?_
    clear hq hly hE
    generalize wE.heap.size = p6 at *
    rintro W8 ⟨hg, hf⟩
    have F6 := Lib.hid hf
    obtain ⟨h0, h1, h2, h3⟩ := hf.b.four
    have hl_h := hf.b.lt
    clear hf
    have HT0 := HT
    clear HT
    have HT := Lib.hid (HT0.out.trans hg)
    clear HT0
    have F1x := F1
    clear F1 a0 a1 a2 a3 hl_a
    have F1 := Lib.hid (F1x.out.next hg)
    clear F1x
    obtain ⟨a0, a1, a2, a3⟩ := F1.out.b.four
    have hl_a := F1.out.b.lt
    have F3x := F3
    clear F3 d0 d1 d2 d3 hl_d
    have F3 := Lib.hid (F3x.out.next hg)
    clear F3x
    obtain ⟨d0, d1, d2, d3⟩ := F3.out.b.four
    have hl_d := F3.out.b.lt
    have F5x := F5
    clear F5 g0 g1 g2 g3 hl_g
    have F5 := Lib.hid (F5x.out.next hg)
    clear F5x
    obtain ⟨g0, g1, g2, g3⟩ := F5.out.b.four
    have hl_g := F5.out.b.lt
    have hUx := hU.trans hg
    clear hU hg
    have hU := hUx
    clear hUx
    have hS := Grows.refl W8
    go_wp2_with (first | (go_at_call 20; (with_reducible refine (panesP_yes V HER.out _ _ _ (F3.out.l.grows (hS.trans (by repeat' (first | (with_reducible exact Grows.refl _) | (with_reducible refine Grows.alloc ?_ _) | (with_reducible refine Grows.drew ?_) | (with_reducible refine Grows.ext ?_ _ _)))))).mono ?_); rintro e wq ⟨v6, rfl, hv6, hq⟩; have hS0 := hS; clear hS; have hS := hS0.trans (Grows.trans (by repeat' (first | (with_reducible exact Grows.refl _) | (with_reducible refine Grows.alloc ?_ _) | (with_reducible refine Grows.drew ?_) | (with_reducible refine Grows.ext ?_ _ _))) hq); clear hS0 hq; obtain ⟨a0, a1, a2, a3⟩ := (F1.out.b.grows hS).four; have hl_a := (F1.out.b.grows hS).lt; obtain ⟨d0, d1, d2, d3⟩ := (F3.out.b.grows hS).four; have hl_d := (F3.out.b.grows hS).lt; obtain ⟨g0, g1, g2, g3⟩ := (F5.out.b.grows hS).four; have hl_g := (F5.out.b.grows hS).lt; obtain ⟨h0, h1, h2, h3⟩ := (F6.out.b.grows hS).four; have hl_h := (F6.out.b.grows hS).lt; rw [HEP.out, HPL.out.1] at hv6) | (go_at_call 21; (with_reducible refine (wk_q _ _ _ _ (hv6.grows (by repeat' (first | (with_reducible exact Grows.refl _) | (with_reducible refine Grows.alloc ?_ _) | (with_reducible refine Grows.drew ?_) | (with_reducible refine Grows.ext ?_ _ _)))) (HV2.out _ (hU.trans (hS.trans (by repeat' (first | (with_reducible exact Grows.refl _) | (with_reducible refine Grows.alloc ?_ _) | (with_reducible refine Grows.drew ?_) | (with_reducible refine Grows.ext ?_ _ _))))))).mono ?_); rintro e wq ⟨rfl, hq⟩; have hS0 := hS; clear hS; have hS := hS0.trans (Grows.trans (by repeat' (first | (with_reducible exact Grows.refl _) | (with_reducible refine Grows.alloc ?_ _) | (with_reducible refine Grows.drew ?_) | (with_reducible refine Grows.ext ?_ _ _))) hq); clear hS0 hq; obtain ⟨a0, a1, a2, a3⟩ := (F1.out.b.grows hS).four; have hl_a := (F1.out.b.grows hS).lt; obtain ⟨d0, d1, d2, d3⟩ := (F3.out.b.grows hS).four; have hl_d := (F3.out.b.grows hS).lt; obtain ⟨g0, g1, g2, g3⟩ := (F5.out.b.grows hS).four; have hl_g := (F5.out.b.grows hS).lt; obtain ⟨h0, h1, h2, h3⟩ := (F6.out.b.grows hS).four; have hl_h := (F6.out.b.grows hS).lt) | (go_at_call 18; (with_reducible refine (same_of (x := V) (y := V) (s := true) ⟨fun _ => ⟨HER.out, HER.out, rfl⟩, fun _ => rfl⟩ (F6.out.l.grows (hS.trans (by repeat' (first | (with_reducible exact Grows.refl _) | (with_reducible refine Grows.alloc ?_ _) | (with_reducible refine Grows.drew ?_) | (with_reducible refine Grows.ext ?_ _ _))))) (F3.out.l.grows (hS.trans (by repeat' (first | (with_reducible exact Grows.refl _) | (with_reducible refine Grows.alloc ?_ _) | (with_reducible refine Grows.drew ?_) | (with_reducible refine Grows.ext ?_ _ _)))))).mono ?_); rintro e wq ⟨rfl, hq⟩; have hS0 := hS; clear hS; have hS := hS0.trans (Grows.trans (by repeat' (first | (with_reducible exact Grows.refl _) | (with_reducible refine Grows.alloc ?_ _) | (with_reducible refine Grows.drew ?_) | (with_reducible refine Grows.ext ?_ _ _))) hq); clear hS0 hq; obtain ⟨a0, a1, a2, a3⟩ := (F1.out.b.grows hS).four; have hl_a := (F1.out.b.grows hS).lt; obtain ⟨d0, d1, d2, d3⟩ := (F3.out.b.grows hS).four; have hl_d := (F3.out.b.grows hS).lt; obtain ⟨g0, g1, g2, g3⟩ := (F5.out.b.grows hS).four; have hl_g := (F5.out.b.grows hS).lt; obtain ⟨h0, h1, h2, h3⟩ := (F6.out.b.grows hS).four; have hl_h := (F6.out.b.grows hS).lt) | (go_at_call 18; (with_reducible refine (same_of (x := L) (y := L) (s := true) ⟨fun _ => ⟨HR.out, HR.out, rfl⟩, fun _ => rfl⟩ (F5.out.l.grows (hS.trans (by repeat' (first | (with_reducible exact Grows.refl _) | (with_reducible refine Grows.alloc ?_ _) | (with_reducible refine Grows.drew ?_) | (with_reducible refine Grows.ext ?_ _ _))))) (F1.out.l.grows (hS.trans (by repeat' (first | (with_reducible exact Grows.refl _) | (with_reducible refine Grows.alloc ?_ _) | (with_reducible refine Grows.drew ?_) | (with_reducible refine Grows.ext ?_ _ _)))))).mono ?_); rintro e wq ⟨rfl, hq⟩; have hS0 := hS; clear hS; have hS := hS0.trans (Grows.trans (by repeat' (first | (with_reducible exact Grows.refl _) | (with_reducible refine Grows.alloc ?_ _) | (with_reducible refine Grows.drew ?_) | (with_reducible refine Grows.ext ?_ _ _))) hq); clear hS0 hq; obtain ⟨a0, a1, a2, a3⟩ := (F1.out.b.grows hS).four; have hl_a := (F1.out.b.grows hS).lt; obtain ⟨d0, d1, d2, d3⟩ := (F3.out.b.grows hS).four; have hl_d := (F3.out.b.grows hS).lt; obtain ⟨g0, g1, g2, g3⟩ := (F5.out.b.grows hS).four; have hl_g := (F5.out.b.grows hS).lt; obtain ⟨h0, h1, h2, h3⟩ := (F6.out.b.grows hS).four; have hl_h := (F6.out.b.grows hS).lt))
    go_returns
    exact ⟨rfl, HT.out.trans (hS.trans (by repeat' (first | (with_reducible exact Grows.refl _) | (with_reducible refine Grows.alloc ?_ _) | (with_reducible refine Grows.drew ?_) | (with_reducible refine Grows.ext ?_ _ _))))⟩
  · go_upto_region 15 with fail
    refine abs_worldM (fun W => Grows W6 W) (by repeat' (first | (with_reducible exact Grows.refl _) | (with_reducible refine Grows.alloc ?_ _) | (with_reducible refine Grows.drew ?_) | (with_reducible refine Grows.ext ?_ _ _))) ?_
    rintro W7 hg
    have HT0 := HT
    clear HT
    have HT := Lib.hid (HT0.out.trans hg)
    clear HT0
    have F1x := F1
    clear F1 a0 a1 a2 a3 hl_a
    have F1 := Lib.hid (F1x.out.next hg)
    clear F1x
    obtain ⟨a0, a1, a2, a3⟩ := F1.out.b.four
    have hl_a := F1.out.b.lt
    have F3x := F3
    clear F3 d0 d1 d2 d3 hl_d
    have F3 := Lib.hid (F3x.out.next hg)
    clear F3x
    obtain ⟨d0, d1, d2, d3⟩ := F3.out.b.four
    have hl_d := F3.out.b.lt
    have F5x := F5
    clear F5 g0 g1 g2 g3 hl_g
    have F5 := Lib.hid (F5x.out.next hg)
    clear F5x
    obtain ⟨g0, g1, g2, g3⟩ := F5.out.b.four
    have hl_g := F5.out.b.lt
    have hUx := hU.trans hg
    clear hU hg
    have hU := hUx
    clear hUx
    go_upto_region 16 with (go_at_call 31; (go_must (with_reducible refine (evenF_any V _ _ _ (fun _ _ => trivial) (F3.out.l.grows (by repeat' (first | (with_reducible exact Grows.refl _) | (with_reducible refine Grows.alloc ?_ _) | (with_reducible refine Grows.drew ?_) | (with_reducible refine Grows.ext ?_ _ _))))).mono ?_)); rintro e wE hE; obtain ⟨kE, cE, mE, dE, rfl, hly, hq⟩ := hE.pair HEE.out)
    refine abs_worldM (fun W => Grows W7 W ∧ LyB W wE.heap.size V kE cE mE dE) ⟨Grows.trans (Grows.trans (by repeat' (first | (with_reducible exact Grows.refl _) | (with_reducible refine Grows.alloc ?_ _) | (with_reducible refine Grows.drew ?_) | (with_reducible refine Grows.ext ?_ _ _))) hq) (by repeat' (first | (with_reducible exact Grows.refl _) | (with_reducible refine Grows.alloc ?_ _) | (with_reducible refine Grows.drew ?_) | (with_reducible refine Grows.ext ?_ _ _))), hly.grows (by repeat' (first | (with_reducible exact Grows.refl _) | (with_reducible refine Grows.alloc ?_ _) | (with_reducible refine Grows.drew ?_) | (with_reducible refine Grows.ext ?_ _ _))), Blk.new (by simp)⟩ ?_
    clear hq hly hE
    generalize wE.heap.size = p6 at *
    rintro W8 ⟨hg, hf⟩
    have F6 := Lib.hid hf
    obtain ⟨h0, h1, h2, h3⟩ := hf.b.four
    have hl_h := hf.b.lt
    clear hf
    have HT0 := HT
    clear HT
    have HT := Lib.hid (HT0.out.trans hg)
    clear HT0
    have F1x := F1
    clear F1 a0 a1 a2 a3 hl_a
    have F1 := Lib.hid (F1x.out.next hg)
    clear F1x
    obtain ⟨a0, a1, a2, a3⟩ := F1.out.b.four
    have hl_a := F1.out.b.lt
    have F3x := F3
    clear F3 d0 d1 d2 d3 hl_d
    have F3 := Lib.hid (F3x.out.next hg)
    clear F3x
    obtain ⟨d0, d1, d2, d3⟩ := F3.out.b.four
    have hl_d := F3.out.b.lt
    have F5x := F5
    clear F5 g0 g1 g2 g3 hl_g
    have F5 := Lib.hid (F5x.out.next hg)
    clear F5x
    obtain ⟨g0, g1, g2, g3⟩ := F5.out.b.four
    have hl_g := F5.out.b.lt
    have hUx := hU.trans hg
    clear hU hg
    have hU := hUx
    clear hUx
    have hS := Grows.refl W8
    go_wp2_with (first | (go_at_call 20; (with_reducible refine (panesP_yes V HER.out _ _ _ (F3.out.l.grows (hS.trans (by repeat' (first | (with_reducible exact Grows.refl _) | (with_reducible refine Grows.alloc ?_ _) | (with_reducible refine Grows.drew ?_) | (with_reducible refine Grows.ext ?_ _ _)))))).mono ?_); rintro e wq ⟨v6, rfl, hv6, hq⟩; have hS0 := hS; clear hS; have hS := hS0.trans (Grows.trans (by repeat' (first | (with_reducible exact Grows.refl _) | (with_reducible refine Grows.alloc ?_ _) | (with_reducible refine Grows.drew ?_) | (with_reducible refine Grows.ext ?_ _ _))) hq); clear hS0 hq; obtain ⟨a0, a1, a2, a3⟩ := (F1.out.b.grows hS).four; have hl_a := (F1.out.b.grows hS).lt; obtain ⟨d0, d1, d2, d3⟩ := (F3.out.b.grows hS).four; have hl_d := (F3.out.b.grows hS).lt; obtain ⟨g0, g1, g2, g3⟩ := (F5.out.b.grows hS).four; have hl_g := (F5.out.b.grows hS).lt; obtain ⟨h0, h1, h2, h3⟩ := (F6.out.b.grows hS).four; have hl_h := (F6.out.b.grows hS).lt; rw [HEP.out, HPL.out.1] at hv6) | (go_at_call 21; (with_reducible refine (wk_q _ _ _ _ (hv6.grows (by repeat' (first | (with_reducible exact Grows.refl _) | (with_reducible refine Grows.alloc ?_ _) | (with_reducible refine Grows.drew ?_) | (with_reducible refine Grows.ext ?_ _ _)))) (HV2.out _ (hU.trans (hS.trans (by repeat' (first | (with_reducible exact Grows.refl _) | (with_reducible refine Grows.alloc ?_ _) | (with_reducible refine Grows.drew ?_) | (with_reducible refine Grows.ext ?_ _ _))))))).mono ?_); rintro e wq ⟨rfl, hq⟩; have hS0 := hS; clear hS; have hS := hS0.trans (Grows.trans (by repeat' (first | (with_reducible exact Grows.refl _) | (with_reducible refine Grows.alloc ?_ _) | (with_reducible refine Grows.drew ?_) | (with_reducible refine Grows.ext ?_ _ _))) hq); clear hS0 hq; obtain ⟨a0, a1, a2, a3⟩ := (F1.out.b.grows hS).four; have hl_a := (F1.out.b.grows hS).lt; obtain ⟨d0, d1, d2, d3⟩ := (F3.out.b.grows hS).four; have hl_d := (F3.out.b.grows hS).lt; obtain ⟨g0, g1, g2, g3⟩ := (F5.out.b.grows hS).four; have hl_g := (F5.out.b.grows hS).lt; obtain ⟨h0, h1, h2, h3⟩ := (F6.out.b.grows hS).four; have hl_h := (F6.out.b.grows hS).lt) | (go_at_call 18; (with_reducible refine (same_of (x := V) (y := V) (s := true) ⟨fun _ => ⟨HER.out, HER.out, rfl⟩, fun _ => rfl⟩ (F6.out.l.grows (hS.trans (by repeat' (first | (with_reducible exact Grows.refl _) | (with_reducible refine Grows.alloc ?_ _) | (with_reducible refine Grows.drew ?_) | (with_reducible refine Grows.ext ?_ _ _))))) (F3.out.l.grows (hS.trans (by repeat' (first | (with_reducible exact Grows.refl _) | (with_reducible refine Grows.alloc ?_ _) | (with_reducible refine Grows.drew ?_) | (with_reducible refine Grows.ext ?_ _ _)))))).mono ?_); rintro e wq ⟨rfl, hq⟩; have hS0 := hS; clear hS; have hS := hS0.trans (Grows.trans (by repeat' (first | (with_reducible exact Grows.refl _) | (with_reducible refine Grows.alloc ?_ _) | (with_reducible refine Grows.drew ?_) | (with_reducible refine Grows.ext ?_ _ _))) hq); clear hS0 hq; obtain ⟨a0, a1, a2, a3⟩ := (F1.out.b.grows hS).four; have hl_a := (F1.out.b.grows hS).lt; obtain ⟨d0, d1, d2, d3⟩ := (F3.out.b.grows hS).four; have hl_d := (F3.out.b.grows hS).lt; obtain ⟨g0, g1, g2, g3⟩ := (F5.out.b.grows hS).four; have hl_g := (F5.out.b.grows hS).lt; obtain ⟨h0, h1, h2, h3⟩ := (F6.out.b.grows hS).four; have hl_h := (F6.out.b.grows hS).lt) | (go_at_call 18; (with_reducible refine (same_of (x := L) (y := L) (s := true) ⟨fun _ => ⟨HR.out, HR.out, rfl⟩, fun _ => rfl⟩ (F5.out.l.grows (hS.trans (by repeat' (first | (with_reducible exact Grows.refl _) | (with_reducible refine Grows.alloc ?_ _) | (with_reducible refine Grows.drew ?_) | (with_reducible refine Grows.ext ?_ _ _))))) (F1.out.l.grows (hS.trans (by repeat' (first | (with_reducible exact Grows.refl _) | (with_reducible refine Grows.alloc ?_ _) | (with_reducible refine Grows.drew ?_) | (with_reducible refine Grows.ext ?_ _ _)))))).mono ?_); rintro e wq ⟨rfl, hq⟩; have hS0 := hS; clear hS; have hS := hS0.trans (Grows.trans (by repeat' (first | (with_reducible exact Grows.refl _) | (with_reducible refine Grows.alloc ?_ _) | (with_reducible refine Grows.drew ?_) | (with_reducible refine Grows.ext ?_ _ _))) hq); clear hS0 hq; obtain ⟨a0, a1, a2, a3⟩ := (F1.out.b.grows hS).four; have hl_a := (F1.out.b.grows hS).lt; obtain ⟨d0, d1, d2, d3⟩ := (F3.out.b.grows hS).four; have hl_d := (F3.out.b.grows hS).lt; obtain ⟨g0, g1, g2, g3⟩ := (F5.out.b.grows hS).four; have hl_g := (F5.out.b.grows hS).lt; obtain ⟨h0, h1, h2, h3⟩ := (F6.out.b.grows hS).four; have hl_h := (F6.out.b.grows hS).lt))
    go_returns
    exact ⟨rfl, HT.out.trans (hS.trans (by repeat' (first | (with_reducible exact Grows.refl _) | (with_reducible refine Grows.alloc ?_ _) | (with_reducible refine Grows.drew ?_) | (with_reducible refine Grows.ext ?_ _ _))))⟩
end Go.Proofs.Ytbobpgegkmcapaa

