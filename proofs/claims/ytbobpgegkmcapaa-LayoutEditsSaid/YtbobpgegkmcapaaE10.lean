/-
  Walks: the closure of Swap. Walks: slices.Equal of tiles and of dividers. Walks: share, of the reference. Walks: Split, its errors. Walks: Close, its errors. Walks: Even, Swap: their errors.
-/
import Derived.Test.YtbobpgegkmcapaaRows
import Derived.Test.YtbobpgegkmcapaaE1
import Derived.Test.YtbobpgegkmcapaaE2
import Derived.WalkKit
import Derived.WalkSpells
import Derived.WalkLawsBesides
import Derived.Handy
import Derived.Laws.Rows
import Derived.Great.BuildSlice
import Derived.Deep.Heap
import Derived.IntWalk
import Derived.Lib.Hide
import Derived.Outline
import Derived.Deep.Light
import Derived.Deep.LoopGhost
import Derived.BigGuardPart
import Derived.BigQuiet
import Derived.Deep.QuietTactic
import Derived.Deep.RegionHeld3
import Derived.Deep.DeepCutAuto
import Derived.Deep.CutBlock
import Derived.OwnWalk
import Derived.Test.YtbobpgegkmcapaaE5
import Derived.Test.YtbobpgegkmcapaaE6
import Derived.Laws.EntriesVeiled
import Derived.Test.YtbobpgegkmcapaaE3
import Derived.Test.YtbobpgegkmcapaaE8
import Derived.Test.YtbobpgegkmcapaaE9
import Derived.Maps.AppendAt
namespace Go.Proofs.Ytbobpgegkmcapaa
open Go.RowKit

theorem swap_name {w : World} {p1 p2 : Nat} {x y : Int} (p : Int) (hC : Blk w p1 3 #[.int .i64 x]) (hD : Blk w p2 3 #[.int .i64 y]) : Calls Try.prog 62 #[.int .i64 p, .pointer (some ⟨p1, 0, none⟩), .pointer (some ⟨p2, 0, none⟩)] w (Ret (.int .i64 (swapP x y p)) w) := by
  obtain ⟨c0, -⟩ := hC.one
  obtain ⟨d0, -⟩ := hD.one
  have hl1 := hC.lt
  have hl2 := hD.lt
  clear hC hD
  unfold swapP
  by_cases h1 : p = x
  · rw [if_pos h1]
    have k1 : (p == x) = true := by simpa using h1
    clear h1
    go_enter Try.func62, Try.ntmps62
    go_wp2
    go_returns
    exact ⟨rfl, (by repeat' (first | (with_reducible exact Grows.refl _) | (with_reducible refine Grows.alloc ?_ _) | (with_reducible refine Grows.drew ?_) | (with_reducible refine Grows.ext ?_ _ _)))⟩
  · rw [if_neg h1]
    have k1 : (p == x) = false := by simpa using h1
    clear h1
    by_cases h2 : p = y
    · rw [if_pos h2]
      have k2 : (p == y) = true := by simpa using h2
      clear h2
      go_enter Try.func62, Try.ntmps62
      go_wp2
      go_returns
      exact ⟨rfl, (by repeat' (first | (with_reducible exact Grows.refl _) | (with_reducible refine Grows.alloc ?_ _) | (with_reducible refine Grows.drew ?_) | (with_reducible refine Grows.ext ?_ _ _)))⟩
    · rw [if_neg h2]
      have k2 : (p == y) = false := by simpa using h2
      clear h2
      go_enter Try.func62, Try.ntmps62
      go_wp2
      go_returns
      exact ⟨rfl, (by repeat' (first | (with_reducible exact Grows.refl _) | (with_reducible refine Grows.alloc ?_ _) | (with_reducible refine Grows.drew ?_) | (with_reducible refine Grows.ext ?_ _ _)))⟩
end Go.Proofs.Ytbobpgegkmcapaa

namespace Go.Proofs.Ytbobpgegkmcapaa
open Go.RowKit

end Go.Proofs.Ytbobpgegkmcapaa

namespace Go.Proofs.Ytbobpgegkmcapaa
open Go.RowKit

end Go.Proofs.Ytbobpgegkmcapaa

namespace Go.Proofs.Ytbobpgegkmcapaa
open Go.RowKit

set_option maxHeartbeats 2000000 in
theorem split_no {S : Nat → Prop} (L : Lay) (pane kind fresh : Int) (hr : rightL L = false) (vk vw : Value) (w : World) (h : LayAt S w L vk vw) : Calls Try.prog 33 #[.agg #[.int .i64 L.kind, .int .i64 L.pane, vk, vw], .int .i64 pane, .int .i64 kind, .int .i64 fresh] w (fun e w' => EdResI S w w' (zeroL, 440) e) := by
  have hc := chk_no hr
  obtain ⟨ka, kc, e1, -⟩ := h.kids.shape rfl
  obtain ⟨wa, wc, e2, -⟩ := h.ints.shape rfl
  subst e1 e2
  have HC := Lib.hid fun W (g : Grows w W) => checked (h.grows g)
  rw [hc] at HC
  have HP := Lib.hid fun W (g : Grows w W) => panesP_no L hr _ _ W (h.grows g)
  clear h hc hr
  generalize L.kids.length = kn at *
  generalize L.ws.length = wn at *
  go_enter Try.func33, Try.ntmps33
  go_upto_region 1 with fail
  refine abs_worldM (fun W' => Grows w W' ∧ Blk W' w.heap.size 25 #[.int .i64 L.kind, .int .i64 L.pane, .slice ka kn kc, .slice wa wn wc] ∧ Blk W' (w.heap.size + 1) 3 #[.int .i64 kind] ∧ Blk W' (w.heap.size + 1 + 1) 3 #[.int .i64 fresh] ∧ Blk W' (w.heap.size + 1 + 1 + 1) 25 #[.int .i64 0, .int .i64 0, .slice none 0 0, .slice none 0 0]) (boxes4 _ _ _ _ _) ?_
  rintro W1 ⟨hg1, hb0, hb1, hb2, hb3⟩
  obtain ⟨a0, a1, a2, a3⟩ := hb0.four
  obtain ⟨k0, -⟩ := hb1.one
  obtain ⟨k1, -⟩ := hb2.one
  obtain ⟨b0, b1, b2, b3⟩ := hb3.four
  obtain ⟨d0, d1, d2, d3⟩ := hb3.four'
  have hl0 := hb0.lt
  have hl1 := hb1.lt
  have hl2 := hb2.lt
  have hl3 := hb3.lt
  have HB0 := Lib.hid hb0
  have HB1 := Lib.hid hb1
  have HB2 := Lib.hid hb2
  have HB3 := Lib.hid hb3
  have HG1 := Lib.hid hg1
  clear hb0 hb1 hb2 hb3 hg1
  go_wp2_with (first | (go_at_call 20; (go_must (with_reducible refine (HP.out _ (HG1.out.trans (by repeat' (first | (with_reducible exact hgW) | (with_reducible exact Grows.refl _) | (with_reducible refine Grows.alloc ?_ _) | (with_reducible refine Grows.drew ?_) | (with_reducible refine Grows.ext ?_ _ _))))).mono ?_)); rintro e w1 ⟨rfl, hg2⟩; have hgW : Grows W1 w1 := Grows.trans (by repeat' (first | (with_reducible exact hgW) | (with_reducible exact Grows.refl _) | (with_reducible refine Grows.alloc ?_ _) | (with_reducible refine Grows.drew ?_) | (with_reducible refine Grows.ext ?_ _ _))) hg2; obtain ⟨a0, a1, a2, a3⟩ := (HB0.out.grows hgW).four; obtain ⟨k0, -⟩ := (HB1.out.grows hgW).one; obtain ⟨k1, -⟩ := (HB2.out.grows hgW).one; obtain ⟨b0, b1, b2, b3⟩ := (HB3.out.grows hgW).four; obtain ⟨d0, d1, d2, d3⟩ := (HB3.out.grows hgW).four'; have hl0 := (HB0.out.grows hgW).lt; have hl1 := (HB1.out.grows hgW).lt; have hl2 := (HB2.out.grows hgW).lt; have hl3 := (HB3.out.grows hgW).lt) | (go_at_call 16; (go_must (with_reducible refine (HC.out _ (HG1.out.trans (by repeat' (first | (with_reducible exact hgW) | (with_reducible exact Grows.refl _) | (with_reducible refine Grows.alloc ?_ _) | (with_reducible refine Grows.drew ?_) | (with_reducible refine Grows.ext ?_ _ _))))).mono ?_)); rintro e w1 ⟨rfl, hg2⟩; have hgW : Grows W1 w1 := Grows.trans (by repeat' (first | (with_reducible exact hgW) | (with_reducible exact Grows.refl _) | (with_reducible refine Grows.alloc ?_ _) | (with_reducible refine Grows.drew ?_) | (with_reducible refine Grows.ext ?_ _ _))) hg2; obtain ⟨a0, a1, a2, a3⟩ := (HB0.out.grows hgW).four; obtain ⟨k0, -⟩ := (HB1.out.grows hgW).one; obtain ⟨k1, -⟩ := (HB2.out.grows hgW).one; obtain ⟨b0, b1, b2, b3⟩ := (HB3.out.grows hgW).four; obtain ⟨d0, d1, d2, d3⟩ := (HB3.out.grows hgW).four'; have hl0 := (HB0.out.grows hgW).lt; have hl1 := (HB1.out.grows hgW).lt; have hl2 := (HB2.out.grows hgW).lt; have hl3 := (HB3.out.grows hgW).lt))
  refine ret_cell_tmp (t := 25) (n := w.heap.size + 1 + 1 + 1) (cs := #[.int .i64 0, .int .i64 0, .slice none 0 0, .slice none 0 0]) rfl rfl rfl ?_ Try.underlying25 rfl (by kernel_rfl) rfl ?_
  · exact (HB3.out.grows hgW).set4
  · exact EdResI.zero (Grows.set4 (HG1.out.trans hgW) (by omega) _ _ _ _) _
set_option maxHeartbeats 2000000 in
theorem split_nopane {S : Nat → Prop} (L : Lay) (pane kind fresh : Int) (hr : rightL L = true) (hp : pane ∉ panesL L) (vk vw : Value) (w : World) (h : LayAt S w L vk vw) : Calls Try.prog 33 #[.agg #[.int .i64 L.kind, .int .i64 L.pane, vk, vw], .int .i64 pane, .int .i64 kind, .int .i64 fresh] w (fun e w' => EdResI S w w' (zeroL, 441) e) := by
  have hc := chk_yes hr
  obtain ⟨ka, kc, e1, -⟩ := h.kids.shape rfl
  obtain ⟨wa, wc, e2, -⟩ := h.ints.shape rfl
  subst e1 e2
  have HC := Lib.hid fun W (g : Grows w W) => checked (h.grows g)
  rw [hc] at HC
  have HP := Lib.hid fun W (g : Grows w W) => panesP_yes L hr _ _ W (h.grows g)
  clear h hc hr
  generalize L.kids.length = kn at *
  generalize L.ws.length = wn at *
  generalize panesL L = pl at *
  go_enter Try.func33, Try.ntmps33
  go_upto_region 1 with fail
  refine abs_worldM (fun W' => Grows w W' ∧ Blk W' w.heap.size 25 #[.int .i64 L.kind, .int .i64 L.pane, .slice ka kn kc, .slice wa wn wc] ∧ Blk W' (w.heap.size + 1) 3 #[.int .i64 kind] ∧ Blk W' (w.heap.size + 1 + 1) 3 #[.int .i64 fresh] ∧ Blk W' (w.heap.size + 1 + 1 + 1) 25 #[.int .i64 0, .int .i64 0, .slice none 0 0, .slice none 0 0]) (boxes4 _ _ _ _ _) ?_
  rintro W1 ⟨hg1, hb0, hb1, hb2, hb3⟩
  obtain ⟨a0, a1, a2, a3⟩ := hb0.four
  obtain ⟨k0, -⟩ := hb1.one
  obtain ⟨k1, -⟩ := hb2.one
  obtain ⟨b0, b1, b2, b3⟩ := hb3.four
  obtain ⟨d0, d1, d2, d3⟩ := hb3.four'
  have hl0 := hb0.lt
  have hl1 := hb1.lt
  have hl2 := hb2.lt
  have hl3 := hb3.lt
  have HB0 := Lib.hid hb0
  have HB1 := Lib.hid hb1
  have HB2 := Lib.hid hb2
  have HB3 := Lib.hid hb3
  have HG1 := Lib.hid hg1
  clear hb0 hb1 hb2 hb3 hg1
  go_wp2_with (first | (go_at_call 20; (go_must (with_reducible refine (HP.out _ (HG1.out.trans (by repeat' (first | (with_reducible exact hgW) | (with_reducible exact Grows.refl _) | (with_reducible refine Grows.alloc ?_ _) | (with_reducible refine Grows.drew ?_) | (with_reducible refine Grows.ext ?_ _ _))))).mono ?_)); rintro e w2 ⟨v2, rfl, hv2, hg2⟩; have hgW : Grows W1 w2 := Grows.trans (by repeat' (first | (with_reducible exact hgW) | (with_reducible exact Grows.refl _) | (with_reducible refine Grows.alloc ?_ _) | (with_reducible refine Grows.drew ?_) | (with_reducible refine Grows.ext ?_ _ _))) hg2; obtain ⟨a0, a1, a2, a3⟩ := (HB0.out.grows hgW).four; obtain ⟨k0, -⟩ := (HB1.out.grows hgW).one; obtain ⟨k1, -⟩ := (HB2.out.grows hgW).one; obtain ⟨b0, b1, b2, b3⟩ := (HB3.out.grows hgW).four; obtain ⟨d0, d1, d2, d3⟩ := (HB3.out.grows hgW).four'; have hl0 := (HB0.out.grows hgW).lt; have hl1 := (HB1.out.grows hgW).lt; have hl2 := (HB2.out.grows hgW).lt; have hl3 := (HB3.out.grows hgW).lt) | (go_at_call 16; (go_must (with_reducible refine (HC.out _ (HG1.out.trans (by repeat' (first | (with_reducible exact hgW) | (with_reducible exact Grows.refl _) | (with_reducible refine Grows.alloc ?_ _) | (with_reducible refine Grows.drew ?_) | (with_reducible refine Grows.ext ?_ _ _))))).mono ?_)); rintro e w3 ⟨rfl, hg3⟩; have hv3 := hv2.grows (Grows.trans (by repeat' (first | (with_reducible exact Grows.refl _) | (with_reducible refine Grows.alloc ?_ _) | (with_reducible refine Grows.drew ?_) | (with_reducible refine Grows.ext ?_ _ _))) hg3); have hgW2 := hgW; clear hgW; have hgW : Grows W1 w3 := hgW2.trans (Grows.trans (by repeat' (first | (with_reducible exact Grows.refl _) | (with_reducible refine Grows.alloc ?_ _) | (with_reducible refine Grows.drew ?_) | (with_reducible refine Grows.ext ?_ _ _))) hg3); obtain ⟨a0, a1, a2, a3⟩ := (HB0.out.grows hgW).four; obtain ⟨k0, -⟩ := (HB1.out.grows hgW).one; obtain ⟨k1, -⟩ := (HB2.out.grows hgW).one; obtain ⟨b0, b1, b2, b3⟩ := (HB3.out.grows hgW).four; obtain ⟨d0, d1, d2, d3⟩ := (HB3.out.grows hgW).four'; have hl0 := (HB0.out.grows hgW).lt; have hl1 := (HB1.out.grows hgW).lt; have hl2 := (HB2.out.grows hgW).lt; have hl3 := (HB3.out.grows hgW).lt) | (go_at_call 55; (go_must (with_reducible refine (contains_any _ _ _ _ (hv3.grows (by repeat' (first | (with_reducible exact Grows.refl _) | (with_reducible refine Grows.alloc ?_ _) | (with_reducible refine Grows.drew ?_) | (with_reducible refine Grows.ext ?_ _ _))))).mono ?_)); rintro e w4 ⟨rfl, rfl⟩))
  refine ret_cell_tmp (t := 25) (n := w.heap.size + 1 + 1 + 1) (cs := #[.int .i64 0, .int .i64 0, .slice none 0 0, .slice none 0 0]) rfl rfl rfl ?_ Try.underlying25 rfl (by kernel_rfl) rfl ?_
  · exact (HB3.out.grows hgW).set4
  · exact EdResI.zero (Grows.set4 (HG1.out.trans hgW) (by omega) _ _ _ _) _
set_option maxHeartbeats 4000000 in
theorem split_bad1 {S : Nat → Prop} (L : Lay) (pane kind fresh : Int) (hr : rightL L = true) (hp : pane ∈ panesL L) (hk : ¬ (kind = 2 ∨ kind = 3)) (vk vw : Value) (w : World) (h : LayAt S w L vk vw) : Calls Try.prog 33 #[.agg #[.int .i64 L.kind, .int .i64 L.pane, vk, vw], .int .i64 pane, .int .i64 kind, .int .i64 fresh] w (fun e w' => EdResI S w w' (zeroL, 2) e) := by
  have hc := chk_yes hr
  obtain ⟨ka, kc, e1, -⟩ := h.kids.shape rfl
  obtain ⟨wa, wc, e2, -⟩ := h.ints.shape rfl
  subst e1 e2
  have HC := Lib.hid fun W (g : Grows w W) => checked (h.grows g)
  rw [hc] at HC
  have HP := Lib.hid fun W (g : Grows w W) => panesP_yes L hr _ _ W (h.grows g)
  have HSP := Lib.hid fun W => (show Calls Try.prog 56 #[.int .i64 kind] W (Ret (.bool false) W) by
    have := isSplit_any kind W
    rwa [show (decide (kind = 2) || decide (kind = 3)) = false by simp; omega] at this)
  clear h hc hr hk
  generalize L.kids.length = kn at *
  generalize L.ws.length = wn at *
  generalize panesL L = pl at *
  go_enter Try.func33, Try.ntmps33
  go_upto_region 1 with fail
  refine abs_worldM (fun W' => Grows w W' ∧ Blk W' w.heap.size 25 #[.int .i64 L.kind, .int .i64 L.pane, .slice ka kn kc, .slice wa wn wc] ∧ Blk W' (w.heap.size + 1) 3 #[.int .i64 kind] ∧ Blk W' (w.heap.size + 1 + 1) 3 #[.int .i64 fresh] ∧ Blk W' (w.heap.size + 1 + 1 + 1) 25 #[.int .i64 0, .int .i64 0, .slice none 0 0, .slice none 0 0]) (boxes4 _ _ _ _ _) ?_
  rintro W1 ⟨hg1, hb0, hb1, hb2, hb3⟩
  obtain ⟨a0, a1, a2, a3⟩ := hb0.four
  obtain ⟨k0, -⟩ := hb1.one
  obtain ⟨k1, -⟩ := hb2.one
  obtain ⟨b0, b1, b2, b3⟩ := hb3.four
  obtain ⟨d0, d1, d2, d3⟩ := hb3.four'
  have hl0 := hb0.lt
  have hl1 := hb1.lt
  have hl2 := hb2.lt
  have hl3 := hb3.lt
  have HB0 := Lib.hid hb0
  have HB1 := Lib.hid hb1
  have HB2 := Lib.hid hb2
  have HB3 := Lib.hid hb3
  have HG1 := Lib.hid hg1
  clear hb0 hb1 hb2 hb3 hg1
  go_wp2_with (first | (go_at_call 20; (go_must (with_reducible refine (HP.out _ (HG1.out.trans (by repeat' (first | (with_reducible exact hgW) | (with_reducible exact Grows.refl _) | (with_reducible refine Grows.alloc ?_ _) | (with_reducible refine Grows.drew ?_) | (with_reducible refine Grows.ext ?_ _ _))))).mono ?_)); rintro e w2 ⟨v2, rfl, hv2, hg2⟩; have hgW : Grows W1 w2 := Grows.trans (by repeat' (first | (with_reducible exact hgW) | (with_reducible exact Grows.refl _) | (with_reducible refine Grows.alloc ?_ _) | (with_reducible refine Grows.drew ?_) | (with_reducible refine Grows.ext ?_ _ _))) hg2; obtain ⟨a0, a1, a2, a3⟩ := (HB0.out.grows hgW).four; obtain ⟨k0, -⟩ := (HB1.out.grows hgW).one; obtain ⟨k1, -⟩ := (HB2.out.grows hgW).one; obtain ⟨b0, b1, b2, b3⟩ := (HB3.out.grows hgW).four; obtain ⟨d0, d1, d2, d3⟩ := (HB3.out.grows hgW).four'; have hl0 := (HB0.out.grows hgW).lt; have hl1 := (HB1.out.grows hgW).lt; have hl2 := (HB2.out.grows hgW).lt; have hl3 := (HB3.out.grows hgW).lt) | (go_at_call 16; (go_must (with_reducible refine (HC.out _ (HG1.out.trans (by repeat' (first | (with_reducible exact hgW) | (with_reducible exact Grows.refl _) | (with_reducible refine Grows.alloc ?_ _) | (with_reducible refine Grows.drew ?_) | (with_reducible refine Grows.ext ?_ _ _))))).mono ?_)); rintro e w3 ⟨rfl, hg3⟩; have hv3 := hv2.grows (Grows.trans (by repeat' (first | (with_reducible exact Grows.refl _) | (with_reducible refine Grows.alloc ?_ _) | (with_reducible refine Grows.drew ?_) | (with_reducible refine Grows.ext ?_ _ _))) hg3); have hgW2 := hgW; clear hgW; have hgW : Grows W1 w3 := hgW2.trans (Grows.trans (by repeat' (first | (with_reducible exact Grows.refl _) | (with_reducible refine Grows.alloc ?_ _) | (with_reducible refine Grows.drew ?_) | (with_reducible refine Grows.ext ?_ _ _))) hg3); obtain ⟨a0, a1, a2, a3⟩ := (HB0.out.grows hgW).four; obtain ⟨k0, -⟩ := (HB1.out.grows hgW).one; obtain ⟨k1, -⟩ := (HB2.out.grows hgW).one; obtain ⟨b0, b1, b2, b3⟩ := (HB3.out.grows hgW).four; obtain ⟨d0, d1, d2, d3⟩ := (HB3.out.grows hgW).four'; have hl0 := (HB0.out.grows hgW).lt; have hl1 := (HB1.out.grows hgW).lt; have hl2 := (HB2.out.grows hgW).lt; have hl3 := (HB3.out.grows hgW).lt) | (go_at_call 55; (go_must (with_reducible refine (contains_any _ _ _ _ (hv3.grows (by repeat' (first | (with_reducible exact Grows.refl _) | (with_reducible refine Grows.alloc ?_ _) | (with_reducible refine Grows.drew ?_) | (with_reducible refine Grows.ext ?_ _ _))))).mono ?_)); rintro e w4 ⟨rfl, rfl⟩) | (go_at_call 56; (go_must (with_reducible refine (HSP.out _).mono ?_)); rintro e w5 ⟨rfl, hg5⟩; have hv4 := hv3.grows (Grows.trans (by repeat' (first | (with_reducible exact Grows.refl _) | (with_reducible refine Grows.alloc ?_ _) | (with_reducible refine Grows.drew ?_) | (with_reducible refine Grows.ext ?_ _ _))) hg5); clear hv3; have hv3 := hv4; clear hv4; have hgW3 := hgW; clear hgW; have hgW : Grows W1 w5 := hgW3.trans (Grows.trans (by repeat' (first | (with_reducible exact Grows.refl _) | (with_reducible refine Grows.alloc ?_ _) | (with_reducible refine Grows.drew ?_) | (with_reducible refine Grows.ext ?_ _ _))) hg5); obtain ⟨a0, a1, a2, a3⟩ := (HB0.out.grows hgW).four; obtain ⟨k0, -⟩ := (HB1.out.grows hgW).one; obtain ⟨k1, -⟩ := (HB2.out.grows hgW).one; obtain ⟨b0, b1, b2, b3⟩ := (HB3.out.grows hgW).four; obtain ⟨d0, d1, d2, d3⟩ := (HB3.out.grows hgW).four'; have hl0 := (HB0.out.grows hgW).lt; have hl1 := (HB1.out.grows hgW).lt; have hl2 := (HB2.out.grows hgW).lt; have hl3 := (HB3.out.grows hgW).lt))
  all_goals (try (exfalso; omega))
  refine ret_cell_tmp (t := 25) (n := w.heap.size + 1 + 1 + 1) (cs := #[.int .i64 0, .int .i64 0, .slice none 0 0, .slice none 0 0]) rfl rfl rfl ?_ Try.underlying25 rfl (by kernel_rfl) rfl ?_
  · exact (HB3.out.grows hgW).set4
  · exact EdResI.zero (Grows.set4 (HG1.out.trans hgW) (by omega) _ _ _ _) _
set_option maxHeartbeats 4000000 in
theorem split_bad2 {S : Nat → Prop} (L : Lay) (pane kind fresh : Int) (hr : rightL L = true) (hp : pane ∈ panesL L) (hk : kind = 2 ∨ kind = 3) (h1 : fresh < 0) (vk vw : Value) (w : World) (h : LayAt S w L vk vw) : Calls Try.prog 33 #[.agg #[.int .i64 L.kind, .int .i64 L.pane, vk, vw], .int .i64 pane, .int .i64 kind, .int .i64 fresh] w (fun e w' => EdResI S w w' (zeroL, 2) e) := by
  have hc := chk_yes hr
  obtain ⟨ka, kc, e1, -⟩ := h.kids.shape rfl
  obtain ⟨wa, wc, e2, -⟩ := h.ints.shape rfl
  subst e1 e2
  have HC := Lib.hid fun W (g : Grows w W) => checked (h.grows g)
  rw [hc] at HC
  have HP := Lib.hid fun W (g : Grows w W) => panesP_yes L hr _ _ W (h.grows g)
  have HSP := Lib.hid fun W => (show Calls Try.prog 56 #[.int .i64 kind] W (Ret (.bool true) W) by
    have := isSplit_any kind W
    rwa [show (decide (kind = 2) || decide (kind = 3)) = true by simpa using hk] at this)
  clear h hc hr hk
  generalize L.kids.length = kn at *
  generalize L.ws.length = wn at *
  generalize panesL L = pl at *
  go_enter Try.func33, Try.ntmps33
  go_upto_region 1 with fail
  refine abs_worldM (fun W' => Grows w W' ∧ Blk W' w.heap.size 25 #[.int .i64 L.kind, .int .i64 L.pane, .slice ka kn kc, .slice wa wn wc] ∧ Blk W' (w.heap.size + 1) 3 #[.int .i64 kind] ∧ Blk W' (w.heap.size + 1 + 1) 3 #[.int .i64 fresh] ∧ Blk W' (w.heap.size + 1 + 1 + 1) 25 #[.int .i64 0, .int .i64 0, .slice none 0 0, .slice none 0 0]) (boxes4 _ _ _ _ _) ?_
  rintro W1 ⟨hg1, hb0, hb1, hb2, hb3⟩
  obtain ⟨a0, a1, a2, a3⟩ := hb0.four
  obtain ⟨k0, -⟩ := hb1.one
  obtain ⟨k1, -⟩ := hb2.one
  obtain ⟨b0, b1, b2, b3⟩ := hb3.four
  obtain ⟨d0, d1, d2, d3⟩ := hb3.four'
  have hl0 := hb0.lt
  have hl1 := hb1.lt
  have hl2 := hb2.lt
  have hl3 := hb3.lt
  have HB0 := Lib.hid hb0
  have HB1 := Lib.hid hb1
  have HB2 := Lib.hid hb2
  have HB3 := Lib.hid hb3
  have HG1 := Lib.hid hg1
  clear hb0 hb1 hb2 hb3 hg1
  go_wp2_with (first | (go_at_call 20; (go_must (with_reducible refine (HP.out _ (HG1.out.trans (by repeat' (first | (with_reducible exact hgW) | (with_reducible exact Grows.refl _) | (with_reducible refine Grows.alloc ?_ _) | (with_reducible refine Grows.drew ?_) | (with_reducible refine Grows.ext ?_ _ _))))).mono ?_)); rintro e w2 ⟨v2, rfl, hv2, hg2⟩; have hgW : Grows W1 w2 := Grows.trans (by repeat' (first | (with_reducible exact hgW) | (with_reducible exact Grows.refl _) | (with_reducible refine Grows.alloc ?_ _) | (with_reducible refine Grows.drew ?_) | (with_reducible refine Grows.ext ?_ _ _))) hg2; obtain ⟨a0, a1, a2, a3⟩ := (HB0.out.grows hgW).four; obtain ⟨k0, -⟩ := (HB1.out.grows hgW).one; obtain ⟨k1, -⟩ := (HB2.out.grows hgW).one; obtain ⟨b0, b1, b2, b3⟩ := (HB3.out.grows hgW).four; obtain ⟨d0, d1, d2, d3⟩ := (HB3.out.grows hgW).four'; have hl0 := (HB0.out.grows hgW).lt; have hl1 := (HB1.out.grows hgW).lt; have hl2 := (HB2.out.grows hgW).lt; have hl3 := (HB3.out.grows hgW).lt) | (go_at_call 16; (go_must (with_reducible refine (HC.out _ (HG1.out.trans (by repeat' (first | (with_reducible exact hgW) | (with_reducible exact Grows.refl _) | (with_reducible refine Grows.alloc ?_ _) | (with_reducible refine Grows.drew ?_) | (with_reducible refine Grows.ext ?_ _ _))))).mono ?_)); rintro e w3 ⟨rfl, hg3⟩; have hv3 := hv2.grows (Grows.trans (by repeat' (first | (with_reducible exact Grows.refl _) | (with_reducible refine Grows.alloc ?_ _) | (with_reducible refine Grows.drew ?_) | (with_reducible refine Grows.ext ?_ _ _))) hg3); have hgW2 := hgW; clear hgW; have hgW : Grows W1 w3 := hgW2.trans (Grows.trans (by repeat' (first | (with_reducible exact Grows.refl _) | (with_reducible refine Grows.alloc ?_ _) | (with_reducible refine Grows.drew ?_) | (with_reducible refine Grows.ext ?_ _ _))) hg3); obtain ⟨a0, a1, a2, a3⟩ := (HB0.out.grows hgW).four; obtain ⟨k0, -⟩ := (HB1.out.grows hgW).one; obtain ⟨k1, -⟩ := (HB2.out.grows hgW).one; obtain ⟨b0, b1, b2, b3⟩ := (HB3.out.grows hgW).four; obtain ⟨d0, d1, d2, d3⟩ := (HB3.out.grows hgW).four'; have hl0 := (HB0.out.grows hgW).lt; have hl1 := (HB1.out.grows hgW).lt; have hl2 := (HB2.out.grows hgW).lt; have hl3 := (HB3.out.grows hgW).lt) | (go_at_call 55; (go_must (with_reducible refine (contains_any _ _ _ _ (hv3.grows (by repeat' (first | (with_reducible exact Grows.refl _) | (with_reducible refine Grows.alloc ?_ _) | (with_reducible refine Grows.drew ?_) | (with_reducible refine Grows.ext ?_ _ _))))).mono ?_)); rintro e w4 ⟨rfl, rfl⟩) | (go_at_call 56; (go_must (with_reducible refine (HSP.out _).mono ?_)); rintro e w5 ⟨rfl, hg5⟩; have hv4 := hv3.grows (Grows.trans (by repeat' (first | (with_reducible exact Grows.refl _) | (with_reducible refine Grows.alloc ?_ _) | (with_reducible refine Grows.drew ?_) | (with_reducible refine Grows.ext ?_ _ _))) hg5); clear hv3; have hv3 := hv4; clear hv4; have hgW3 := hgW; clear hgW; have hgW : Grows W1 w5 := hgW3.trans (Grows.trans (by repeat' (first | (with_reducible exact Grows.refl _) | (with_reducible refine Grows.alloc ?_ _) | (with_reducible refine Grows.drew ?_) | (with_reducible refine Grows.ext ?_ _ _))) hg5); obtain ⟨a0, a1, a2, a3⟩ := (HB0.out.grows hgW).four; obtain ⟨k0, -⟩ := (HB1.out.grows hgW).one; obtain ⟨k1, -⟩ := (HB2.out.grows hgW).one; obtain ⟨b0, b1, b2, b3⟩ := (HB3.out.grows hgW).four; obtain ⟨d0, d1, d2, d3⟩ := (HB3.out.grows hgW).four'; have hl0 := (HB0.out.grows hgW).lt; have hl1 := (HB1.out.grows hgW).lt; have hl2 := (HB2.out.grows hgW).lt; have hl3 := (HB3.out.grows hgW).lt))
  all_goals (try (exfalso; omega))
  refine ret_cell_tmp (t := 25) (n := w.heap.size + 1 + 1 + 1) (cs := #[.int .i64 0, .int .i64 0, .slice none 0 0, .slice none 0 0]) rfl rfl rfl ?_ Try.underlying25 rfl (by kernel_rfl) rfl ?_
  · exact (HB3.out.grows hgW).set4
  · exact EdResI.zero (Grows.set4 (HG1.out.trans hgW) (by omega) _ _ _ _) _
set_option maxHeartbeats 4000000 in
theorem split_bad3 {S : Nat → Prop} (L : Lay) (pane kind fresh : Int) (hr : rightL L = true) (hp : pane ∈ panesL L) (hk : kind = 2 ∨ kind = 3) (_h1 : ¬ fresh < 0) (h2 : 999 < fresh) (vk vw : Value) (w : World) (h : LayAt S w L vk vw) : Calls Try.prog 33 #[.agg #[.int .i64 L.kind, .int .i64 L.pane, vk, vw], .int .i64 pane, .int .i64 kind, .int .i64 fresh] w (fun e w' => EdResI S w w' (zeroL, 2) e) := by
  have hc := chk_yes hr
  obtain ⟨ka, kc, e1, -⟩ := h.kids.shape rfl
  obtain ⟨wa, wc, e2, -⟩ := h.ints.shape rfl
  subst e1 e2
  have HC := Lib.hid fun W (g : Grows w W) => checked (h.grows g)
  rw [hc] at HC
  have HP := Lib.hid fun W (g : Grows w W) => panesP_yes L hr _ _ W (h.grows g)
  have HSP := Lib.hid fun W => (show Calls Try.prog 56 #[.int .i64 kind] W (Ret (.bool true) W) by
    have := isSplit_any kind W
    rwa [show (decide (kind = 2) || decide (kind = 3)) = true by simpa using hk] at this)
  clear h hc hr hk
  generalize L.kids.length = kn at *
  generalize L.ws.length = wn at *
  generalize panesL L = pl at *
  go_enter Try.func33, Try.ntmps33
  go_upto_region 1 with fail
  refine abs_worldM (fun W' => Grows w W' ∧ Blk W' w.heap.size 25 #[.int .i64 L.kind, .int .i64 L.pane, .slice ka kn kc, .slice wa wn wc] ∧ Blk W' (w.heap.size + 1) 3 #[.int .i64 kind] ∧ Blk W' (w.heap.size + 1 + 1) 3 #[.int .i64 fresh] ∧ Blk W' (w.heap.size + 1 + 1 + 1) 25 #[.int .i64 0, .int .i64 0, .slice none 0 0, .slice none 0 0]) (boxes4 _ _ _ _ _) ?_
  rintro W1 ⟨hg1, hb0, hb1, hb2, hb3⟩
  obtain ⟨a0, a1, a2, a3⟩ := hb0.four
  obtain ⟨k0, -⟩ := hb1.one
  obtain ⟨k1, -⟩ := hb2.one
  obtain ⟨b0, b1, b2, b3⟩ := hb3.four
  obtain ⟨d0, d1, d2, d3⟩ := hb3.four'
  have hl0 := hb0.lt
  have hl1 := hb1.lt
  have hl2 := hb2.lt
  have hl3 := hb3.lt
  have HB0 := Lib.hid hb0
  have HB1 := Lib.hid hb1
  have HB2 := Lib.hid hb2
  have HB3 := Lib.hid hb3
  have HG1 := Lib.hid hg1
  clear hb0 hb1 hb2 hb3 hg1
  go_wp2_with (first | (go_at_call 20; (go_must (with_reducible refine (HP.out _ (HG1.out.trans (by repeat' (first | (with_reducible exact hgW) | (with_reducible exact Grows.refl _) | (with_reducible refine Grows.alloc ?_ _) | (with_reducible refine Grows.drew ?_) | (with_reducible refine Grows.ext ?_ _ _))))).mono ?_)); rintro e w2 ⟨v2, rfl, hv2, hg2⟩; have hgW : Grows W1 w2 := Grows.trans (by repeat' (first | (with_reducible exact hgW) | (with_reducible exact Grows.refl _) | (with_reducible refine Grows.alloc ?_ _) | (with_reducible refine Grows.drew ?_) | (with_reducible refine Grows.ext ?_ _ _))) hg2; obtain ⟨a0, a1, a2, a3⟩ := (HB0.out.grows hgW).four; obtain ⟨k0, -⟩ := (HB1.out.grows hgW).one; obtain ⟨k1, -⟩ := (HB2.out.grows hgW).one; obtain ⟨b0, b1, b2, b3⟩ := (HB3.out.grows hgW).four; obtain ⟨d0, d1, d2, d3⟩ := (HB3.out.grows hgW).four'; have hl0 := (HB0.out.grows hgW).lt; have hl1 := (HB1.out.grows hgW).lt; have hl2 := (HB2.out.grows hgW).lt; have hl3 := (HB3.out.grows hgW).lt) | (go_at_call 16; (go_must (with_reducible refine (HC.out _ (HG1.out.trans (by repeat' (first | (with_reducible exact hgW) | (with_reducible exact Grows.refl _) | (with_reducible refine Grows.alloc ?_ _) | (with_reducible refine Grows.drew ?_) | (with_reducible refine Grows.ext ?_ _ _))))).mono ?_)); rintro e w3 ⟨rfl, hg3⟩; have hv3 := hv2.grows (Grows.trans (by repeat' (first | (with_reducible exact Grows.refl _) | (with_reducible refine Grows.alloc ?_ _) | (with_reducible refine Grows.drew ?_) | (with_reducible refine Grows.ext ?_ _ _))) hg3); have hgW2 := hgW; clear hgW; have hgW : Grows W1 w3 := hgW2.trans (Grows.trans (by repeat' (first | (with_reducible exact Grows.refl _) | (with_reducible refine Grows.alloc ?_ _) | (with_reducible refine Grows.drew ?_) | (with_reducible refine Grows.ext ?_ _ _))) hg3); obtain ⟨a0, a1, a2, a3⟩ := (HB0.out.grows hgW).four; obtain ⟨k0, -⟩ := (HB1.out.grows hgW).one; obtain ⟨k1, -⟩ := (HB2.out.grows hgW).one; obtain ⟨b0, b1, b2, b3⟩ := (HB3.out.grows hgW).four; obtain ⟨d0, d1, d2, d3⟩ := (HB3.out.grows hgW).four'; have hl0 := (HB0.out.grows hgW).lt; have hl1 := (HB1.out.grows hgW).lt; have hl2 := (HB2.out.grows hgW).lt; have hl3 := (HB3.out.grows hgW).lt) | (go_at_call 55; (go_must (with_reducible refine (contains_any _ _ _ _ (hv3.grows (by repeat' (first | (with_reducible exact Grows.refl _) | (with_reducible refine Grows.alloc ?_ _) | (with_reducible refine Grows.drew ?_) | (with_reducible refine Grows.ext ?_ _ _))))).mono ?_)); rintro e w4 ⟨rfl, rfl⟩) | (go_at_call 56; (go_must (with_reducible refine (HSP.out _).mono ?_)); rintro e w5 ⟨rfl, hg5⟩; have hv4 := hv3.grows (Grows.trans (by repeat' (first | (with_reducible exact Grows.refl _) | (with_reducible refine Grows.alloc ?_ _) | (with_reducible refine Grows.drew ?_) | (with_reducible refine Grows.ext ?_ _ _))) hg5); clear hv3; have hv3 := hv4; clear hv4; have hgW3 := hgW; clear hgW; have hgW : Grows W1 w5 := hgW3.trans (Grows.trans (by repeat' (first | (with_reducible exact Grows.refl _) | (with_reducible refine Grows.alloc ?_ _) | (with_reducible refine Grows.drew ?_) | (with_reducible refine Grows.ext ?_ _ _))) hg5); obtain ⟨a0, a1, a2, a3⟩ := (HB0.out.grows hgW).four; obtain ⟨k0, -⟩ := (HB1.out.grows hgW).one; obtain ⟨k1, -⟩ := (HB2.out.grows hgW).one; obtain ⟨b0, b1, b2, b3⟩ := (HB3.out.grows hgW).four; obtain ⟨d0, d1, d2, d3⟩ := (HB3.out.grows hgW).four'; have hl0 := (HB0.out.grows hgW).lt; have hl1 := (HB1.out.grows hgW).lt; have hl2 := (HB2.out.grows hgW).lt; have hl3 := (HB3.out.grows hgW).lt))
  all_goals (try (exfalso; omega))
  refine ret_cell_tmp (t := 25) (n := w.heap.size + 1 + 1 + 1) (cs := #[.int .i64 0, .int .i64 0, .slice none 0 0, .slice none 0 0]) rfl rfl rfl ?_ Try.underlying25 rfl (by kernel_rfl) rfl ?_
  · exact (HB3.out.grows hgW).set4
  · exact EdResI.zero (Grows.set4 (HG1.out.trans hgW) (by omega) _ _ _ _) _
set_option maxHeartbeats 4000000 in
theorem split_bad4 {S : Nat → Prop} (L : Lay) (pane kind fresh : Int) (hr : rightL L = true) (hp : pane ∈ panesL L) (hk : kind = 2 ∨ kind = 3) (h1 : ¬ fresh < 0) (h2 : ¬ 999 < fresh) (h3 : fresh ∈ panesL L) (vk vw : Value) (w : World) (h : LayAt S w L vk vw) : Calls Try.prog 33 #[.agg #[.int .i64 L.kind, .int .i64 L.pane, vk, vw], .int .i64 pane, .int .i64 kind, .int .i64 fresh] w (fun e w' => EdResI S w w' (zeroL, 2) e) := by
  have hc := chk_yes hr
  obtain ⟨ka, kc, e1, -⟩ := h.kids.shape rfl
  obtain ⟨wa, wc, e2, -⟩ := h.ints.shape rfl
  subst e1 e2
  have HC := Lib.hid fun W (g : Grows w W) => checked (h.grows g)
  rw [hc] at HC
  have HP := Lib.hid fun W (g : Grows w W) => panesP_yes L hr _ _ W (h.grows g)
  have HSP := Lib.hid fun W => (show Calls Try.prog 56 #[.int .i64 kind] W (Ret (.bool true) W) by
    have := isSplit_any kind W
    rwa [show (decide (kind = 2) || decide (kind = 3)) = true by simpa using hk] at this)
  clear h hc hr hk
  generalize L.kids.length = kn at *
  generalize L.ws.length = wn at *
  generalize panesL L = pl at *
  go_enter Try.func33, Try.ntmps33
  go_upto_region 1 with fail
  refine abs_worldM (fun W' => Grows w W' ∧ Blk W' w.heap.size 25 #[.int .i64 L.kind, .int .i64 L.pane, .slice ka kn kc, .slice wa wn wc] ∧ Blk W' (w.heap.size + 1) 3 #[.int .i64 kind] ∧ Blk W' (w.heap.size + 1 + 1) 3 #[.int .i64 fresh] ∧ Blk W' (w.heap.size + 1 + 1 + 1) 25 #[.int .i64 0, .int .i64 0, .slice none 0 0, .slice none 0 0]) (boxes4 _ _ _ _ _) ?_
  rintro W1 ⟨hg1, hb0, hb1, hb2, hb3⟩
  obtain ⟨a0, a1, a2, a3⟩ := hb0.four
  obtain ⟨k0, -⟩ := hb1.one
  obtain ⟨k1, -⟩ := hb2.one
  obtain ⟨b0, b1, b2, b3⟩ := hb3.four
  obtain ⟨d0, d1, d2, d3⟩ := hb3.four'
  have hl0 := hb0.lt
  have hl1 := hb1.lt
  have hl2 := hb2.lt
  have hl3 := hb3.lt
  have HB0 := Lib.hid hb0
  have HB1 := Lib.hid hb1
  have HB2 := Lib.hid hb2
  have HB3 := Lib.hid hb3
  have HG1 := Lib.hid hg1
  clear hb0 hb1 hb2 hb3 hg1
  go_wp2_with (first | (go_at_call 20; (go_must (with_reducible refine (HP.out _ (HG1.out.trans (by repeat' (first | (with_reducible exact hgW) | (with_reducible exact Grows.refl _) | (with_reducible refine Grows.alloc ?_ _) | (with_reducible refine Grows.drew ?_) | (with_reducible refine Grows.ext ?_ _ _))))).mono ?_)); rintro e w2 ⟨v2, rfl, hv2, hg2⟩; have hgW : Grows W1 w2 := Grows.trans (by repeat' (first | (with_reducible exact hgW) | (with_reducible exact Grows.refl _) | (with_reducible refine Grows.alloc ?_ _) | (with_reducible refine Grows.drew ?_) | (with_reducible refine Grows.ext ?_ _ _))) hg2; obtain ⟨a0, a1, a2, a3⟩ := (HB0.out.grows hgW).four; obtain ⟨k0, -⟩ := (HB1.out.grows hgW).one; obtain ⟨k1, -⟩ := (HB2.out.grows hgW).one; obtain ⟨b0, b1, b2, b3⟩ := (HB3.out.grows hgW).four; obtain ⟨d0, d1, d2, d3⟩ := (HB3.out.grows hgW).four'; have hl0 := (HB0.out.grows hgW).lt; have hl1 := (HB1.out.grows hgW).lt; have hl2 := (HB2.out.grows hgW).lt; have hl3 := (HB3.out.grows hgW).lt) | (go_at_call 16; (go_must (with_reducible refine (HC.out _ (HG1.out.trans (by repeat' (first | (with_reducible exact hgW) | (with_reducible exact Grows.refl _) | (with_reducible refine Grows.alloc ?_ _) | (with_reducible refine Grows.drew ?_) | (with_reducible refine Grows.ext ?_ _ _))))).mono ?_)); rintro e w3 ⟨rfl, hg3⟩; have hv3 := hv2.grows (Grows.trans (by repeat' (first | (with_reducible exact Grows.refl _) | (with_reducible refine Grows.alloc ?_ _) | (with_reducible refine Grows.drew ?_) | (with_reducible refine Grows.ext ?_ _ _))) hg3); have hgW2 := hgW; clear hgW; have hgW : Grows W1 w3 := hgW2.trans (Grows.trans (by repeat' (first | (with_reducible exact Grows.refl _) | (with_reducible refine Grows.alloc ?_ _) | (with_reducible refine Grows.drew ?_) | (with_reducible refine Grows.ext ?_ _ _))) hg3); obtain ⟨a0, a1, a2, a3⟩ := (HB0.out.grows hgW).four; obtain ⟨k0, -⟩ := (HB1.out.grows hgW).one; obtain ⟨k1, -⟩ := (HB2.out.grows hgW).one; obtain ⟨b0, b1, b2, b3⟩ := (HB3.out.grows hgW).four; obtain ⟨d0, d1, d2, d3⟩ := (HB3.out.grows hgW).four'; have hl0 := (HB0.out.grows hgW).lt; have hl1 := (HB1.out.grows hgW).lt; have hl2 := (HB2.out.grows hgW).lt; have hl3 := (HB3.out.grows hgW).lt) | (go_at_call 55; (go_must (with_reducible refine (contains_any _ _ _ _ (hv3.grows (by repeat' (first | (with_reducible exact Grows.refl _) | (with_reducible refine Grows.alloc ?_ _) | (with_reducible refine Grows.drew ?_) | (with_reducible refine Grows.ext ?_ _ _))))).mono ?_)); rintro e w4 ⟨rfl, rfl⟩) | (go_at_call 56; (go_must (with_reducible refine (HSP.out _).mono ?_)); rintro e w5 ⟨rfl, hg5⟩; have hv4 := hv3.grows (Grows.trans (by repeat' (first | (with_reducible exact Grows.refl _) | (with_reducible refine Grows.alloc ?_ _) | (with_reducible refine Grows.drew ?_) | (with_reducible refine Grows.ext ?_ _ _))) hg5); clear hv3; have hv3 := hv4; clear hv4; have hgW3 := hgW; clear hgW; have hgW : Grows W1 w5 := hgW3.trans (Grows.trans (by repeat' (first | (with_reducible exact Grows.refl _) | (with_reducible refine Grows.alloc ?_ _) | (with_reducible refine Grows.drew ?_) | (with_reducible refine Grows.ext ?_ _ _))) hg5); obtain ⟨a0, a1, a2, a3⟩ := (HB0.out.grows hgW).four; obtain ⟨k0, -⟩ := (HB1.out.grows hgW).one; obtain ⟨k1, -⟩ := (HB2.out.grows hgW).one; obtain ⟨b0, b1, b2, b3⟩ := (HB3.out.grows hgW).four; obtain ⟨d0, d1, d2, d3⟩ := (HB3.out.grows hgW).four'; have hl0 := (HB0.out.grows hgW).lt; have hl1 := (HB1.out.grows hgW).lt; have hl2 := (HB2.out.grows hgW).lt; have hl3 := (HB3.out.grows hgW).lt))
  all_goals (try (exfalso; omega))
  refine ret_cell_tmp (t := 25) (n := w.heap.size + 1 + 1 + 1) (cs := #[.int .i64 0, .int .i64 0, .slice none 0 0, .slice none 0 0]) rfl rfl rfl ?_ Try.underlying25 rfl (by kernel_rfl) rfl ?_
  · exact (HB3.out.grows hgW).set4
  · exact EdResI.zero (Grows.set4 (HG1.out.trans hgW) (by omega) _ _ _ _) _
set_option maxHeartbeats 4000000 in
theorem split_full {S : Nat → Prop} (L : Lay) (pane kind fresh : Int) (hr : rightL L = true) (hp : pane ∈ panesL L) (hk : kind = 2 ∨ kind = 3) (h1 : ¬ fresh < 0) (h2 : ¬ 999 < fresh) (h3 : fresh ∉ panesL L) (h4 : (panesL L).length = 16) (vk vw : Value) (w : World) (h : LayAt S w L vk vw) : Calls Try.prog 33 #[.agg #[.int .i64 L.kind, .int .i64 L.pane, vk, vw], .int .i64 pane, .int .i64 kind, .int .i64 fresh] w (fun e w' => EdResI S w w' (zeroL, 7) e) := by
  have hc := chk_yes hr
  obtain ⟨ka, kc, e1, -⟩ := h.kids.shape rfl
  obtain ⟨wa, wc, e2, -⟩ := h.ints.shape rfl
  subst e1 e2
  have HC := Lib.hid fun W (g : Grows w W) => checked (h.grows g)
  rw [hc] at HC
  have HP := Lib.hid fun W (g : Grows w W) => panesP_yes L hr _ _ W (h.grows g)
  have HSP := Lib.hid fun W => (show Calls Try.prog 56 #[.int .i64 kind] W (Ret (.bool true) W) by
    have := isSplit_any kind W
    rwa [show (decide (kind = 2) || decide (kind = 3)) = true by simpa using hk] at this)
  clear h hc hr hk
  generalize L.kids.length = kn at *
  generalize L.ws.length = wn at *
  generalize panesL L = pl at *
  go_enter Try.func33, Try.ntmps33
  go_upto_region 1 with fail
  refine abs_worldM (fun W' => Grows w W' ∧ Blk W' w.heap.size 25 #[.int .i64 L.kind, .int .i64 L.pane, .slice ka kn kc, .slice wa wn wc] ∧ Blk W' (w.heap.size + 1) 3 #[.int .i64 kind] ∧ Blk W' (w.heap.size + 1 + 1) 3 #[.int .i64 fresh] ∧ Blk W' (w.heap.size + 1 + 1 + 1) 25 #[.int .i64 0, .int .i64 0, .slice none 0 0, .slice none 0 0]) (boxes4 _ _ _ _ _) ?_
  rintro W1 ⟨hg1, hb0, hb1, hb2, hb3⟩
  obtain ⟨a0, a1, a2, a3⟩ := hb0.four
  obtain ⟨k0, -⟩ := hb1.one
  obtain ⟨k1, -⟩ := hb2.one
  obtain ⟨b0, b1, b2, b3⟩ := hb3.four
  obtain ⟨d0, d1, d2, d3⟩ := hb3.four'
  have hl0 := hb0.lt
  have hl1 := hb1.lt
  have hl2 := hb2.lt
  have hl3 := hb3.lt
  have HB0 := Lib.hid hb0
  have HB1 := Lib.hid hb1
  have HB2 := Lib.hid hb2
  have HB3 := Lib.hid hb3
  have HG1 := Lib.hid hg1
  clear hb0 hb1 hb2 hb3 hg1
  go_wp2_with (first | (go_at_call 20; (go_must (with_reducible refine (HP.out _ (HG1.out.trans (by repeat' (first | (with_reducible exact hgW) | (with_reducible exact Grows.refl _) | (with_reducible refine Grows.alloc ?_ _) | (with_reducible refine Grows.drew ?_) | (with_reducible refine Grows.ext ?_ _ _))))).mono ?_)); rintro e w2 ⟨v2, rfl, hv2, hg2⟩; have hgW : Grows W1 w2 := Grows.trans (by repeat' (first | (with_reducible exact hgW) | (with_reducible exact Grows.refl _) | (with_reducible refine Grows.alloc ?_ _) | (with_reducible refine Grows.drew ?_) | (with_reducible refine Grows.ext ?_ _ _))) hg2; obtain ⟨a0, a1, a2, a3⟩ := (HB0.out.grows hgW).four; obtain ⟨k0, -⟩ := (HB1.out.grows hgW).one; obtain ⟨k1, -⟩ := (HB2.out.grows hgW).one; obtain ⟨b0, b1, b2, b3⟩ := (HB3.out.grows hgW).four; obtain ⟨d0, d1, d2, d3⟩ := (HB3.out.grows hgW).four'; have hl0 := (HB0.out.grows hgW).lt; have hl1 := (HB1.out.grows hgW).lt; have hl2 := (HB2.out.grows hgW).lt; have hl3 := (HB3.out.grows hgW).lt; obtain ⟨va, vc, rfl, hvc, -⟩ := hv2.shape h4) | (go_at_call 16; (go_must (with_reducible refine (HC.out _ (HG1.out.trans (by repeat' (first | (with_reducible exact hgW) | (with_reducible exact Grows.refl _) | (with_reducible refine Grows.alloc ?_ _) | (with_reducible refine Grows.drew ?_) | (with_reducible refine Grows.ext ?_ _ _))))).mono ?_)); rintro e w3 ⟨rfl, hg3⟩; have hv3 := hv2.grows (Grows.trans (by repeat' (first | (with_reducible exact Grows.refl _) | (with_reducible refine Grows.alloc ?_ _) | (with_reducible refine Grows.drew ?_) | (with_reducible refine Grows.ext ?_ _ _))) hg3); have hgW2 := hgW; clear hgW; have hgW : Grows W1 w3 := hgW2.trans (Grows.trans (by repeat' (first | (with_reducible exact Grows.refl _) | (with_reducible refine Grows.alloc ?_ _) | (with_reducible refine Grows.drew ?_) | (with_reducible refine Grows.ext ?_ _ _))) hg3); obtain ⟨a0, a1, a2, a3⟩ := (HB0.out.grows hgW).four; obtain ⟨k0, -⟩ := (HB1.out.grows hgW).one; obtain ⟨k1, -⟩ := (HB2.out.grows hgW).one; obtain ⟨b0, b1, b2, b3⟩ := (HB3.out.grows hgW).four; obtain ⟨d0, d1, d2, d3⟩ := (HB3.out.grows hgW).four'; have hl0 := (HB0.out.grows hgW).lt; have hl1 := (HB1.out.grows hgW).lt; have hl2 := (HB2.out.grows hgW).lt; have hl3 := (HB3.out.grows hgW).lt) | (go_at_call 55; (go_must (with_reducible refine (contains_any _ _ _ _ (hv3.grows (by repeat' (first | (with_reducible exact Grows.refl _) | (with_reducible refine Grows.alloc ?_ _) | (with_reducible refine Grows.drew ?_) | (with_reducible refine Grows.ext ?_ _ _))))).mono ?_)); rintro e w4 ⟨rfl, rfl⟩) | (go_at_call 56; (go_must (with_reducible refine (HSP.out _).mono ?_)); rintro e w5 ⟨rfl, hg5⟩; have hv4 := hv3.grows (Grows.trans (by repeat' (first | (with_reducible exact Grows.refl _) | (with_reducible refine Grows.alloc ?_ _) | (with_reducible refine Grows.drew ?_) | (with_reducible refine Grows.ext ?_ _ _))) hg5); clear hv3; have hv3 := hv4; clear hv4; have hgW3 := hgW; clear hgW; have hgW : Grows W1 w5 := hgW3.trans (Grows.trans (by repeat' (first | (with_reducible exact Grows.refl _) | (with_reducible refine Grows.alloc ?_ _) | (with_reducible refine Grows.drew ?_) | (with_reducible refine Grows.ext ?_ _ _))) hg5); obtain ⟨a0, a1, a2, a3⟩ := (HB0.out.grows hgW).four; obtain ⟨k0, -⟩ := (HB1.out.grows hgW).one; obtain ⟨k1, -⟩ := (HB2.out.grows hgW).one; obtain ⟨b0, b1, b2, b3⟩ := (HB3.out.grows hgW).four; obtain ⟨d0, d1, d2, d3⟩ := (HB3.out.grows hgW).four'; have hl0 := (HB0.out.grows hgW).lt; have hl1 := (HB1.out.grows hgW).lt; have hl2 := (HB2.out.grows hgW).lt; have hl3 := (HB3.out.grows hgW).lt))
  all_goals (try (exfalso; omega))
  refine ret_cell_tmp (t := 25) (n := w.heap.size + 1 + 1 + 1) (cs := #[.int .i64 0, .int .i64 0, .slice none 0 0, .slice none 0 0]) rfl rfl rfl ?_ Try.underlying25 rfl (by kernel_rfl) rfl ?_
  · exact (HB3.out.grows hgW).set4
  · exact EdResI.zero (Grows.set4 (HG1.out.trans hgW) (by omega) _ _ _ _) _
end Go.Proofs.Ytbobpgegkmcapaa

namespace Go.Proofs.Ytbobpgegkmcapaa
open Go.RowKit

set_option maxHeartbeats 4000000 in
theorem close_no {S : Nat → Prop} (L : Lay) (pane : Int) (hr : rightL L = false) (vk vw : Value) (w : World) (h : LayAt S w L vk vw) : Calls Try.prog 34 #[.agg #[.int .i64 L.kind, .int .i64 L.pane, vk, vw], .int .i64 pane] w (fun e w' => EdResI S w w' (zeroL, 440) e) := by
  have hc := chk_no hr
  obtain ⟨ka, kc, e1, -⟩ := h.kids.shape rfl
  obtain ⟨wa, wc, e2, -⟩ := h.ints.shape rfl
  subst e1 e2
  have HC := Lib.hid fun W (g : Grows w W) => checked (h.grows g)
  rw [hc] at HC
  have HP := Lib.hid fun W (g : Grows w W) => panesP_no L hr _ _ W (h.grows g)
  clear h hc hr
  generalize L.kids.length = kn at *
  generalize L.ws.length = wn at *
  go_enter Try.func34, Try.ntmps34
  go_upto_region 1 with fail
  refine abs_worldM (fun W' => Grows w W' ∧ Blk W' w.heap.size 25 #[.int .i64 L.kind, .int .i64 L.pane, .slice ka kn kc, .slice wa wn wc] ∧ Blk W' (w.heap.size + 1) 25 #[.int .i64 0, .int .i64 0, .slice none 0 0, .slice none 0 0]) (boxes2 _ _ _) ?_
  rintro W1 ⟨hg1, hb0, hb3⟩
  obtain ⟨a0, a1, a2, a3⟩ := hb0.four
  obtain ⟨b0, b1, b2, b3⟩ := hb3.four
  obtain ⟨d0, d1, d2, d3⟩ := hb3.four'
  have hl0 := hb0.lt
  have hl3 := hb3.lt
  have HB0 := Lib.hid hb0
  have HB3 := Lib.hid hb3
  have HG1 := Lib.hid hg1
  clear hb0 hb3 hg1
  go_wp2_with (first | (go_at_call 20; (go_must (with_reducible refine (HP.out _ (HG1.out.trans (by repeat' (first | (with_reducible exact hgW) | (with_reducible exact Grows.refl _) | (with_reducible refine Grows.alloc ?_ _) | (with_reducible refine Grows.drew ?_) | (with_reducible refine Grows.ext ?_ _ _))))).mono ?_)); rintro e w1 ⟨rfl, hg2⟩; have hgW : Grows W1 w1 := Grows.trans (by repeat' (first | (with_reducible exact hgW) | (with_reducible exact Grows.refl _) | (with_reducible refine Grows.alloc ?_ _) | (with_reducible refine Grows.drew ?_) | (with_reducible refine Grows.ext ?_ _ _))) hg2; obtain ⟨a0, a1, a2, a3⟩ := (HB0.out.grows hgW).four; obtain ⟨b0, b1, b2, b3⟩ := (HB3.out.grows hgW).four; obtain ⟨d0, d1, d2, d3⟩ := (HB3.out.grows hgW).four'; have hl0 := (HB0.out.grows hgW).lt; have hl3 := (HB3.out.grows hgW).lt) | (go_at_call 16; (go_must (with_reducible refine (HC.out _ (HG1.out.trans (by repeat' (first | (with_reducible exact hgW) | (with_reducible exact Grows.refl _) | (with_reducible refine Grows.alloc ?_ _) | (with_reducible refine Grows.drew ?_) | (with_reducible refine Grows.ext ?_ _ _))))).mono ?_)); rintro e w1 ⟨rfl, hg2⟩; have hgW : Grows W1 w1 := Grows.trans (by repeat' (first | (with_reducible exact hgW) | (with_reducible exact Grows.refl _) | (with_reducible refine Grows.alloc ?_ _) | (with_reducible refine Grows.drew ?_) | (with_reducible refine Grows.ext ?_ _ _))) hg2; obtain ⟨a0, a1, a2, a3⟩ := (HB0.out.grows hgW).four; obtain ⟨b0, b1, b2, b3⟩ := (HB3.out.grows hgW).four; obtain ⟨d0, d1, d2, d3⟩ := (HB3.out.grows hgW).four'; have hl0 := (HB0.out.grows hgW).lt; have hl3 := (HB3.out.grows hgW).lt))
  all_goals (try (exfalso; omega))
  refine ret_cell_tmp (t := 25) (n := w.heap.size + 1) (cs := #[.int .i64 0, .int .i64 0, .slice none 0 0, .slice none 0 0]) rfl rfl rfl ?_ Try.underlying25 rfl (by kernel_rfl) rfl ?_
  · exact (HB3.out.grows hgW).set4
  · exact EdResI.zero (Grows.set4 (HG1.out.trans hgW) (by omega) _ _ _ _) _
set_option maxHeartbeats 4000000 in
theorem close_nopane {S : Nat → Prop} (L : Lay) (pane : Int) (hr : rightL L = true) (hp : pane ∉ panesL L) (vk vw : Value) (w : World) (h : LayAt S w L vk vw) : Calls Try.prog 34 #[.agg #[.int .i64 L.kind, .int .i64 L.pane, vk, vw], .int .i64 pane] w (fun e w' => EdResI S w w' (zeroL, 441) e) := by
  have hc := chk_yes hr
  obtain ⟨ka, kc, e1, -⟩ := h.kids.shape rfl
  obtain ⟨wa, wc, e2, -⟩ := h.ints.shape rfl
  subst e1 e2
  have HC := Lib.hid fun W (g : Grows w W) => checked (h.grows g)
  rw [hc] at HC
  have HP := Lib.hid fun W (g : Grows w W) => panesP_yes L hr _ _ W (h.grows g)
  clear h hc hr
  generalize L.kids.length = kn at *
  generalize L.ws.length = wn at *
  generalize panesL L = pl at *
  go_enter Try.func34, Try.ntmps34
  go_upto_region 1 with fail
  refine abs_worldM (fun W' => Grows w W' ∧ Blk W' w.heap.size 25 #[.int .i64 L.kind, .int .i64 L.pane, .slice ka kn kc, .slice wa wn wc] ∧ Blk W' (w.heap.size + 1) 25 #[.int .i64 0, .int .i64 0, .slice none 0 0, .slice none 0 0]) (boxes2 _ _ _) ?_
  rintro W1 ⟨hg1, hb0, hb3⟩
  obtain ⟨a0, a1, a2, a3⟩ := hb0.four
  obtain ⟨b0, b1, b2, b3⟩ := hb3.four
  obtain ⟨d0, d1, d2, d3⟩ := hb3.four'
  have hl0 := hb0.lt
  have hl3 := hb3.lt
  have HB0 := Lib.hid hb0
  have HB3 := Lib.hid hb3
  have HG1 := Lib.hid hg1
  clear hb0 hb3 hg1
  go_wp2_with (first | (go_at_call 20; (go_must (with_reducible refine (HP.out _ (HG1.out.trans (by repeat' (first | (with_reducible exact hgW) | (with_reducible exact Grows.refl _) | (with_reducible refine Grows.alloc ?_ _) | (with_reducible refine Grows.drew ?_) | (with_reducible refine Grows.ext ?_ _ _))))).mono ?_)); rintro e w2 ⟨v2, rfl, hv2, hg2⟩; have hgW : Grows W1 w2 := Grows.trans (by repeat' (first | (with_reducible exact hgW) | (with_reducible exact Grows.refl _) | (with_reducible refine Grows.alloc ?_ _) | (with_reducible refine Grows.drew ?_) | (with_reducible refine Grows.ext ?_ _ _))) hg2; obtain ⟨a0, a1, a2, a3⟩ := (HB0.out.grows hgW).four; obtain ⟨b0, b1, b2, b3⟩ := (HB3.out.grows hgW).four; obtain ⟨d0, d1, d2, d3⟩ := (HB3.out.grows hgW).four'; have hl0 := (HB0.out.grows hgW).lt; have hl3 := (HB3.out.grows hgW).lt) | (go_at_call 16; (go_must (with_reducible refine (HC.out _ (HG1.out.trans (by repeat' (first | (with_reducible exact hgW) | (with_reducible exact Grows.refl _) | (with_reducible refine Grows.alloc ?_ _) | (with_reducible refine Grows.drew ?_) | (with_reducible refine Grows.ext ?_ _ _))))).mono ?_)); rintro e w3 ⟨rfl, hg3⟩; have hv3 := hv2.grows (Grows.trans (by repeat' (first | (with_reducible exact Grows.refl _) | (with_reducible refine Grows.alloc ?_ _) | (with_reducible refine Grows.drew ?_) | (with_reducible refine Grows.ext ?_ _ _))) hg3); have hgW2 := hgW; clear hgW; have hgW : Grows W1 w3 := hgW2.trans (Grows.trans (by repeat' (first | (with_reducible exact Grows.refl _) | (with_reducible refine Grows.alloc ?_ _) | (with_reducible refine Grows.drew ?_) | (with_reducible refine Grows.ext ?_ _ _))) hg3); obtain ⟨a0, a1, a2, a3⟩ := (HB0.out.grows hgW).four; obtain ⟨b0, b1, b2, b3⟩ := (HB3.out.grows hgW).four; obtain ⟨d0, d1, d2, d3⟩ := (HB3.out.grows hgW).four'; have hl0 := (HB0.out.grows hgW).lt; have hl3 := (HB3.out.grows hgW).lt) | (go_at_call 55; (go_must (with_reducible refine (contains_any _ _ _ _ (hv3.grows (by repeat' (first | (with_reducible exact Grows.refl _) | (with_reducible refine Grows.alloc ?_ _) | (with_reducible refine Grows.drew ?_) | (with_reducible refine Grows.ext ?_ _ _))))).mono ?_)); rintro e w4 ⟨rfl, rfl⟩))
  all_goals (try (exfalso; omega))
  refine ret_cell_tmp (t := 25) (n := w.heap.size + 1) (cs := #[.int .i64 0, .int .i64 0, .slice none 0 0, .slice none 0 0]) rfl rfl rfl ?_ Try.underlying25 rfl (by kernel_rfl) rfl ?_
  · exact (HB3.out.grows hgW).set4
  · exact EdResI.zero (Grows.set4 (HG1.out.trans hgW) (by omega) _ _ _ _) _
set_option maxHeartbeats 4000000 in
theorem close_last {S : Nat → Prop} (L : Lay) (pane : Int) (hr : rightL L = true) (hp : pane ∈ panesL L) (h4 : (panesL L).length = 1) (vk vw : Value) (w : World) (h : LayAt S w L vk vw) : Calls Try.prog 34 #[.agg #[.int .i64 L.kind, .int .i64 L.pane, vk, vw], .int .i64 pane] w (fun e w' => EdResI S w w' (zeroL, 7) e) := by
  have hc := chk_yes hr
  obtain ⟨ka, kc, e1, -⟩ := h.kids.shape rfl
  obtain ⟨wa, wc, e2, -⟩ := h.ints.shape rfl
  subst e1 e2
  have HC := Lib.hid fun W (g : Grows w W) => checked (h.grows g)
  rw [hc] at HC
  have HP := Lib.hid fun W (g : Grows w W) => panesP_yes L hr _ _ W (h.grows g)
  clear h hc hr
  generalize L.kids.length = kn at *
  generalize L.ws.length = wn at *
  generalize panesL L = pl at *
  go_enter Try.func34, Try.ntmps34
  go_upto_region 1 with fail
  refine abs_worldM (fun W' => Grows w W' ∧ Blk W' w.heap.size 25 #[.int .i64 L.kind, .int .i64 L.pane, .slice ka kn kc, .slice wa wn wc] ∧ Blk W' (w.heap.size + 1) 25 #[.int .i64 0, .int .i64 0, .slice none 0 0, .slice none 0 0]) (boxes2 _ _ _) ?_
  rintro W1 ⟨hg1, hb0, hb3⟩
  obtain ⟨a0, a1, a2, a3⟩ := hb0.four
  obtain ⟨b0, b1, b2, b3⟩ := hb3.four
  obtain ⟨d0, d1, d2, d3⟩ := hb3.four'
  have hl0 := hb0.lt
  have hl3 := hb3.lt
  have HB0 := Lib.hid hb0
  have HB3 := Lib.hid hb3
  have HG1 := Lib.hid hg1
  clear hb0 hb3 hg1
  go_wp2_with (first | (go_at_call 20; (go_must (with_reducible refine (HP.out _ (HG1.out.trans (by repeat' (first | (with_reducible exact hgW) | (with_reducible exact Grows.refl _) | (with_reducible refine Grows.alloc ?_ _) | (with_reducible refine Grows.drew ?_) | (with_reducible refine Grows.ext ?_ _ _))))).mono ?_)); rintro e w2 ⟨v2, rfl, hv2, hg2⟩; have hgW : Grows W1 w2 := Grows.trans (by repeat' (first | (with_reducible exact hgW) | (with_reducible exact Grows.refl _) | (with_reducible refine Grows.alloc ?_ _) | (with_reducible refine Grows.drew ?_) | (with_reducible refine Grows.ext ?_ _ _))) hg2; obtain ⟨a0, a1, a2, a3⟩ := (HB0.out.grows hgW).four; obtain ⟨b0, b1, b2, b3⟩ := (HB3.out.grows hgW).four; obtain ⟨d0, d1, d2, d3⟩ := (HB3.out.grows hgW).four'; have hl0 := (HB0.out.grows hgW).lt; have hl3 := (HB3.out.grows hgW).lt; obtain ⟨va, vc, rfl, hvc, -⟩ := hv2.shape h4) | (go_at_call 16; (go_must (with_reducible refine (HC.out _ (HG1.out.trans (by repeat' (first | (with_reducible exact hgW) | (with_reducible exact Grows.refl _) | (with_reducible refine Grows.alloc ?_ _) | (with_reducible refine Grows.drew ?_) | (with_reducible refine Grows.ext ?_ _ _))))).mono ?_)); rintro e w3 ⟨rfl, hg3⟩; have hv3 := hv2.grows (Grows.trans (by repeat' (first | (with_reducible exact Grows.refl _) | (with_reducible refine Grows.alloc ?_ _) | (with_reducible refine Grows.drew ?_) | (with_reducible refine Grows.ext ?_ _ _))) hg3); have hgW2 := hgW; clear hgW; have hgW : Grows W1 w3 := hgW2.trans (Grows.trans (by repeat' (first | (with_reducible exact Grows.refl _) | (with_reducible refine Grows.alloc ?_ _) | (with_reducible refine Grows.drew ?_) | (with_reducible refine Grows.ext ?_ _ _))) hg3); obtain ⟨a0, a1, a2, a3⟩ := (HB0.out.grows hgW).four; obtain ⟨b0, b1, b2, b3⟩ := (HB3.out.grows hgW).four; obtain ⟨d0, d1, d2, d3⟩ := (HB3.out.grows hgW).four'; have hl0 := (HB0.out.grows hgW).lt; have hl3 := (HB3.out.grows hgW).lt) | (go_at_call 55; (go_must (with_reducible refine (contains_any _ _ _ _ (hv3.grows (by repeat' (first | (with_reducible exact Grows.refl _) | (with_reducible refine Grows.alloc ?_ _) | (with_reducible refine Grows.drew ?_) | (with_reducible refine Grows.ext ?_ _ _))))).mono ?_)); rintro e w4 ⟨rfl, rfl⟩))
  all_goals (try (exfalso; omega))
  refine ret_cell_tmp (t := 25) (n := w.heap.size + 1) (cs := #[.int .i64 0, .int .i64 0, .slice none 0 0, .slice none 0 0]) rfl rfl rfl ?_ Try.underlying25 rfl (by kernel_rfl) rfl ?_
  · exact (HB3.out.grows hgW).set4
  · exact EdResI.zero (Grows.set4 (HG1.out.trans hgW) (by omega) _ _ _ _) _
end Go.Proofs.Ytbobpgegkmcapaa

namespace Go.Proofs.Ytbobpgegkmcapaa
open Go.RowKit

theorem even_no {S : Nat → Prop} (L : Lay) (hr : rightL L = false) (vk vw : Value) (w : World) (h : LayAt S w L vk vw) : Calls Try.prog 31 #[.agg #[.int .i64 L.kind, .int .i64 L.pane, vk, vw]] w (fun e w' => EdResI S w w' (zeroL, 440) e) := by
  have hc := chk_no hr
  obtain ⟨ka, kc, e1, -⟩ := h.kids.shape rfl
  obtain ⟨wa, wc, e2, -⟩ := h.ints.shape rfl
  subst e1 e2
  have HC := Lib.hid fun W (g : Grows w W) => checked (h.grows g)
  rw [hc] at HC
  clear h hc hr
  generalize L.kids.length = kn at *
  generalize L.ws.length = wn at *
  go_enter Try.func31, Try.ntmps31
  go_upto_region 1 with fail
  refine abs_worldM (fun W' => Grows w W' ∧ Blk W' w.heap.size 25 #[.int .i64 L.kind, .int .i64 L.pane, .slice ka kn kc, .slice wa wn wc] ∧ Blk W' (w.heap.size + 1) 25 #[.int .i64 0, .int .i64 0, .slice none 0 0, .slice none 0 0]) (boxes2 _ _ _) ?_
  rintro W1 ⟨hg1, hb0, hb3⟩
  obtain ⟨a0, a1, a2, a3⟩ := hb0.four
  obtain ⟨b0, b1, b2, b3⟩ := hb3.four
  obtain ⟨d0, d1, d2, d3⟩ := hb3.four'
  have hl0 := hb0.lt
  have hl3 := hb3.lt
  have HB0 := Lib.hid hb0
  have HB3 := Lib.hid hb3
  have HG1 := Lib.hid hg1
  clear hb0 hb3 hg1
  go_wp2_with (first | (go_at_call 16; (go_must (with_reducible refine (HC.out _ (HG1.out.trans (by repeat' (first | (with_reducible exact hgW) | (with_reducible exact Grows.refl _) | (with_reducible refine Grows.alloc ?_ _) | (with_reducible refine Grows.drew ?_) | (with_reducible refine Grows.ext ?_ _ _))))).mono ?_)); rintro e w1 ⟨rfl, hg2⟩; have hgW : Grows W1 w1 := Grows.trans (by repeat' (first | (with_reducible exact hgW) | (with_reducible exact Grows.refl _) | (with_reducible refine Grows.alloc ?_ _) | (with_reducible refine Grows.drew ?_) | (with_reducible refine Grows.ext ?_ _ _))) hg2; obtain ⟨a0, a1, a2, a3⟩ := (HB0.out.grows hgW).four; obtain ⟨b0, b1, b2, b3⟩ := (HB3.out.grows hgW).four; obtain ⟨d0, d1, d2, d3⟩ := (HB3.out.grows hgW).four'; have hl0 := (HB0.out.grows hgW).lt; have hl3 := (HB3.out.grows hgW).lt))
  refine ret_cell_tmp (t := 25) (n := w.heap.size + 1) (cs := #[.int .i64 0, .int .i64 0, .slice none 0 0, .slice none 0 0]) rfl rfl rfl ?_ Try.underlying25 rfl (by kernel_rfl) rfl ?_
  · exact (HB3.out.grows hgW).set4
  · exact EdResI.zero (Grows.set4 (HG1.out.trans hgW) (by omega) _ _ _ _) _
set_option maxHeartbeats 4000000 in
theorem swap_no {S : Nat → Prop} (L : Lay) (x y : Int) (hr : rightL L = false) (vk vw : Value) (w : World) (h : LayAt S w L vk vw) : Calls Try.prog 32 #[.agg #[.int .i64 L.kind, .int .i64 L.pane, vk, vw], .int .i64 x, .int .i64 y] w (fun e w' => EdResI S w w' (zeroL, 440) e) := by
  have hc := chk_no hr
  obtain ⟨ka, kc, e1, -⟩ := h.kids.shape rfl
  obtain ⟨wa, wc, e2, -⟩ := h.ints.shape rfl
  subst e1 e2
  have HC := Lib.hid fun W (g : Grows w W) => checked (h.grows g)
  rw [hc] at HC
  clear h hc hr
  generalize L.kids.length = kn at *
  generalize L.ws.length = wn at *
  go_enter Try.func32, Try.ntmps32
  go_upto_region 1 with fail
  refine abs_worldM (fun W' => Grows w W' ∧ Blk W' w.heap.size 25 #[.int .i64 L.kind, .int .i64 L.pane, .slice ka kn kc, .slice wa wn wc] ∧ Blk W' (w.heap.size + 1) 3 #[.int .i64 x] ∧ Blk W' (w.heap.size + 1 + 1) 3 #[.int .i64 y] ∧ Blk W' (w.heap.size + 1 + 1 + 1) 25 #[.int .i64 0, .int .i64 0, .slice none 0 0, .slice none 0 0]) (boxes4 _ _ _ _ _) ?_
  rintro W1 ⟨hg1, hb0, hb1, hb2, hb3⟩
  obtain ⟨a0, a1, a2, a3⟩ := hb0.four
  obtain ⟨k0, -⟩ := hb1.one
  obtain ⟨k1, -⟩ := hb2.one
  obtain ⟨b0, b1, b2, b3⟩ := hb3.four
  obtain ⟨d0, d1, d2, d3⟩ := hb3.four'
  have hl0 := hb0.lt
  have hl1 := hb1.lt
  have hl2 := hb2.lt
  have hl3 := hb3.lt
  have HB0 := Lib.hid hb0
  have HB1 := Lib.hid hb1
  have HB2 := Lib.hid hb2
  have HB3 := Lib.hid hb3
  have HG1 := Lib.hid hg1
  clear hb0 hb1 hb2 hb3 hg1
  go_wp2_with (first | (go_at_call 16; (go_must (with_reducible refine (HC.out _ (HG1.out.trans (by repeat' (first | (with_reducible exact hgW) | (with_reducible exact Grows.refl _) | (with_reducible refine Grows.alloc ?_ _) | (with_reducible refine Grows.drew ?_) | (with_reducible refine Grows.ext ?_ _ _))))).mono ?_)); rintro e w1 ⟨rfl, hg2⟩; have hgW : Grows W1 w1 := Grows.trans (by repeat' (first | (with_reducible exact hgW) | (with_reducible exact Grows.refl _) | (with_reducible refine Grows.alloc ?_ _) | (with_reducible refine Grows.drew ?_) | (with_reducible refine Grows.ext ?_ _ _))) hg2; obtain ⟨a0, a1, a2, a3⟩ := (HB0.out.grows hgW).four; obtain ⟨k0, -⟩ := (HB1.out.grows hgW).one; obtain ⟨k1, -⟩ := (HB2.out.grows hgW).one; obtain ⟨b0, b1, b2, b3⟩ := (HB3.out.grows hgW).four; obtain ⟨d0, d1, d2, d3⟩ := (HB3.out.grows hgW).four'; have hl0 := (HB0.out.grows hgW).lt; have hl1 := (HB1.out.grows hgW).lt; have hl2 := (HB2.out.grows hgW).lt; have hl3 := (HB3.out.grows hgW).lt))
  refine ret_cell_tmp (t := 25) (n := w.heap.size + 1 + 1 + 1) (cs := #[.int .i64 0, .int .i64 0, .slice none 0 0, .slice none 0 0]) rfl rfl rfl ?_ Try.underlying25 rfl (by kernel_rfl) rfl ?_
  · exact (HB3.out.grows hgW).set4
  · exact EdResI.zero (Grows.set4 (HG1.out.trans hgW) (by omega) _ _ _ _) _
set_option maxHeartbeats 4000000 in
theorem swap_nopane1 {S : Nat → Prop} (L : Lay) (x y : Int) (hr : rightL L = true) (hp : x ∉ panesL L) (vk vw : Value) (w : World) (h : LayAt S w L vk vw) : Calls Try.prog 32 #[.agg #[.int .i64 L.kind, .int .i64 L.pane, vk, vw], .int .i64 x, .int .i64 y] w (fun e w' => EdResI S w w' (zeroL, 441) e) := by
  obtain ⟨hok, hn, -⟩ := right_ok hr
  have hc := chk_yes hr
  obtain ⟨ka, kc, e1, -⟩ := h.kids.shape rfl
  obtain ⟨wa, wc, e2, -⟩ := h.ints.shape rfl
  subst e1 e2
  have HC := Lib.hid fun W (g : Grows w W) => checked (h.grows g)
  rw [hc] at HC
  have HP := Lib.hid fun W (g : Grows w W) => panes_any L hok (by omega) _ _ W (h.grows g)
  clear h hok hn hc hr
  generalize L.kids.length = kn at *
  generalize L.ws.length = wn at *
  generalize panesL L = pl at *
  go_enter Try.func32, Try.ntmps32
  go_upto_region 1 with fail
  refine abs_worldM (fun W' => Grows w W' ∧ Blk W' w.heap.size 25 #[.int .i64 L.kind, .int .i64 L.pane, .slice ka kn kc, .slice wa wn wc] ∧ Blk W' (w.heap.size + 1) 3 #[.int .i64 x] ∧ Blk W' (w.heap.size + 1 + 1) 3 #[.int .i64 y] ∧ Blk W' (w.heap.size + 1 + 1 + 1) 25 #[.int .i64 0, .int .i64 0, .slice none 0 0, .slice none 0 0]) (boxes4 _ _ _ _ _) ?_
  rintro W1 ⟨hg1, hb0, hb1, hb2, hb3⟩
  obtain ⟨a0, a1, a2, a3⟩ := hb0.four
  obtain ⟨k0, -⟩ := hb1.one
  obtain ⟨k1, -⟩ := hb2.one
  obtain ⟨b0, b1, b2, b3⟩ := hb3.four
  obtain ⟨d0, d1, d2, d3⟩ := hb3.four'
  have hl0 := hb0.lt
  have hl1 := hb1.lt
  have hl2 := hb2.lt
  have hl3 := hb3.lt
  have HB0 := Lib.hid hb0
  have HB1 := Lib.hid hb1
  have HB2 := Lib.hid hb2
  have HB3 := Lib.hid hb3
  have HG1 := Lib.hid hg1
  clear hb0 hb1 hb2 hb3 hg1
  go_wp2_with (first | (go_at_call 16; (go_must (with_reducible refine (HC.out _ (HG1.out.trans (by repeat' (first | (with_reducible exact hgW) | (with_reducible exact Grows.refl _) | (with_reducible refine Grows.alloc ?_ _) | (with_reducible refine Grows.drew ?_) | (with_reducible refine Grows.ext ?_ _ _))))).mono ?_)); rintro e w1 ⟨rfl, hg2⟩; have hgW : Grows W1 w1 := Grows.trans (by repeat' (first | (with_reducible exact hgW) | (with_reducible exact Grows.refl _) | (with_reducible refine Grows.alloc ?_ _) | (with_reducible refine Grows.drew ?_) | (with_reducible refine Grows.ext ?_ _ _))) hg2; obtain ⟨a0, a1, a2, a3⟩ := (HB0.out.grows hgW).four; obtain ⟨k0, -⟩ := (HB1.out.grows hgW).one; obtain ⟨k1, -⟩ := (HB2.out.grows hgW).one; obtain ⟨b0, b1, b2, b3⟩ := (HB3.out.grows hgW).four; obtain ⟨d0, d1, d2, d3⟩ := (HB3.out.grows hgW).four'; have hl0 := (HB0.out.grows hgW).lt; have hl1 := (HB1.out.grows hgW).lt; have hl2 := (HB2.out.grows hgW).lt; have hl3 := (HB3.out.grows hgW).lt) | (go_at_call 48; (go_must (with_reducible refine (HP.out _ (HG1.out.trans (by repeat' (first | (with_reducible exact hgW) | (with_reducible exact Grows.refl _) | (with_reducible refine Grows.alloc ?_ _) | (with_reducible refine Grows.drew ?_) | (with_reducible refine Grows.ext ?_ _ _))))).mono ?_)); rintro e w2 ⟨v2, rfl, hv3, hg3⟩; have hgW2 := hgW; clear hgW; have hgW : Grows W1 w2 := Grows.trans (hgW2.trans (by repeat' (first | (with_reducible exact Grows.refl _) | (with_reducible refine Grows.alloc ?_ _) | (with_reducible refine Grows.drew ?_) | (with_reducible refine Grows.ext ?_ _ _)))) hg3; obtain ⟨a0, a1, a2, a3⟩ := (HB0.out.grows hgW).four; obtain ⟨k0, -⟩ := (HB1.out.grows hgW).one; obtain ⟨k1, -⟩ := (HB2.out.grows hgW).one; obtain ⟨b0, b1, b2, b3⟩ := (HB3.out.grows hgW).four; obtain ⟨d0, d1, d2, d3⟩ := (HB3.out.grows hgW).four'; have hl0 := (HB0.out.grows hgW).lt; have hl1 := (HB1.out.grows hgW).lt; have hl2 := (HB2.out.grows hgW).lt; have hl3 := (HB3.out.grows hgW).lt) | (go_at_call 55; (go_must (with_reducible refine (contains_any _ _ _ _ (hv3.grows (by repeat' (first | (with_reducible exact Grows.refl _) | (with_reducible refine Grows.alloc ?_ _) | (with_reducible refine Grows.drew ?_) | (with_reducible refine Grows.ext ?_ _ _))))).mono ?_)); rintro e w4 ⟨rfl, rfl⟩))
  all_goals (try (exfalso; omega))
  refine ret_cell_tmp (t := 25) (n := w.heap.size + 1 + 1 + 1) (cs := #[.int .i64 0, .int .i64 0, .slice none 0 0, .slice none 0 0]) rfl rfl rfl ?_ Try.underlying25 rfl (by kernel_rfl) rfl ?_
  · exact (HB3.out.grows hgW).set4
  · exact EdResI.zero (Grows.set4 (HG1.out.trans hgW) (by omega) _ _ _ _) _
set_option maxHeartbeats 4000000 in
theorem swap_nopane2 {S : Nat → Prop} (L : Lay) (x y : Int) (hr : rightL L = true) (hp : x ∈ panesL L) (hp2 : y ∉ panesL L) (vk vw : Value) (w : World) (h : LayAt S w L vk vw) : Calls Try.prog 32 #[.agg #[.int .i64 L.kind, .int .i64 L.pane, vk, vw], .int .i64 x, .int .i64 y] w (fun e w' => EdResI S w w' (zeroL, 441) e) := by
  obtain ⟨hok, hn, -⟩ := right_ok hr
  have hc := chk_yes hr
  obtain ⟨ka, kc, e1, -⟩ := h.kids.shape rfl
  obtain ⟨wa, wc, e2, -⟩ := h.ints.shape rfl
  subst e1 e2
  have HC := Lib.hid fun W (g : Grows w W) => checked (h.grows g)
  rw [hc] at HC
  have HP := Lib.hid fun W (g : Grows w W) => panes_any L hok (by omega) _ _ W (h.grows g)
  clear h hok hn hc hr
  generalize L.kids.length = kn at *
  generalize L.ws.length = wn at *
  generalize panesL L = pl at *
  go_enter Try.func32, Try.ntmps32
  go_upto_region 1 with fail
  refine abs_worldM (fun W' => Grows w W' ∧ Blk W' w.heap.size 25 #[.int .i64 L.kind, .int .i64 L.pane, .slice ka kn kc, .slice wa wn wc] ∧ Blk W' (w.heap.size + 1) 3 #[.int .i64 x] ∧ Blk W' (w.heap.size + 1 + 1) 3 #[.int .i64 y] ∧ Blk W' (w.heap.size + 1 + 1 + 1) 25 #[.int .i64 0, .int .i64 0, .slice none 0 0, .slice none 0 0]) (boxes4 _ _ _ _ _) ?_
  rintro W1 ⟨hg1, hb0, hb1, hb2, hb3⟩
  obtain ⟨a0, a1, a2, a3⟩ := hb0.four
  obtain ⟨k0, -⟩ := hb1.one
  obtain ⟨k1, -⟩ := hb2.one
  obtain ⟨b0, b1, b2, b3⟩ := hb3.four
  obtain ⟨d0, d1, d2, d3⟩ := hb3.four'
  have hl0 := hb0.lt
  have hl1 := hb1.lt
  have hl2 := hb2.lt
  have hl3 := hb3.lt
  have HB0 := Lib.hid hb0
  have HB1 := Lib.hid hb1
  have HB2 := Lib.hid hb2
  have HB3 := Lib.hid hb3
  have HG1 := Lib.hid hg1
  clear hb0 hb1 hb2 hb3 hg1
  go_wp2_with (first | (go_at_call 16; (go_must (with_reducible refine (HC.out _ (HG1.out.trans (by repeat' (first | (with_reducible exact hgW) | (with_reducible exact Grows.refl _) | (with_reducible refine Grows.alloc ?_ _) | (with_reducible refine Grows.drew ?_) | (with_reducible refine Grows.ext ?_ _ _))))).mono ?_)); rintro e w1 ⟨rfl, hg2⟩; have hgW : Grows W1 w1 := Grows.trans (by repeat' (first | (with_reducible exact hgW) | (with_reducible exact Grows.refl _) | (with_reducible refine Grows.alloc ?_ _) | (with_reducible refine Grows.drew ?_) | (with_reducible refine Grows.ext ?_ _ _))) hg2; obtain ⟨a0, a1, a2, a3⟩ := (HB0.out.grows hgW).four; obtain ⟨k0, -⟩ := (HB1.out.grows hgW).one; obtain ⟨k1, -⟩ := (HB2.out.grows hgW).one; obtain ⟨b0, b1, b2, b3⟩ := (HB3.out.grows hgW).four; obtain ⟨d0, d1, d2, d3⟩ := (HB3.out.grows hgW).four'; have hl0 := (HB0.out.grows hgW).lt; have hl1 := (HB1.out.grows hgW).lt; have hl2 := (HB2.out.grows hgW).lt; have hl3 := (HB3.out.grows hgW).lt) | (go_at_call 48; (go_must (with_reducible refine (HP.out _ (HG1.out.trans (by repeat' (first | (with_reducible exact hgW) | (with_reducible exact Grows.refl _) | (with_reducible refine Grows.alloc ?_ _) | (with_reducible refine Grows.drew ?_) | (with_reducible refine Grows.ext ?_ _ _))))).mono ?_)); rintro e w2 ⟨v2, rfl, hv3, hg3⟩; have hgW2 := hgW; clear hgW; have hgW : Grows W1 w2 := Grows.trans (hgW2.trans (by repeat' (first | (with_reducible exact Grows.refl _) | (with_reducible refine Grows.alloc ?_ _) | (with_reducible refine Grows.drew ?_) | (with_reducible refine Grows.ext ?_ _ _)))) hg3; obtain ⟨a0, a1, a2, a3⟩ := (HB0.out.grows hgW).four; obtain ⟨k0, -⟩ := (HB1.out.grows hgW).one; obtain ⟨k1, -⟩ := (HB2.out.grows hgW).one; obtain ⟨b0, b1, b2, b3⟩ := (HB3.out.grows hgW).four; obtain ⟨d0, d1, d2, d3⟩ := (HB3.out.grows hgW).four'; have hl0 := (HB0.out.grows hgW).lt; have hl1 := (HB1.out.grows hgW).lt; have hl2 := (HB2.out.grows hgW).lt; have hl3 := (HB3.out.grows hgW).lt) | (go_at_call 55; (go_must (with_reducible refine (contains_any _ _ _ _ (hv3.grows (by repeat' (first | (with_reducible exact Grows.refl _) | (with_reducible refine Grows.alloc ?_ _) | (with_reducible refine Grows.drew ?_) | (with_reducible refine Grows.ext ?_ _ _))))).mono ?_)); rintro e w4 ⟨rfl, rfl⟩))
  all_goals (try (exfalso; omega))
  refine ret_cell_tmp (t := 25) (n := w.heap.size + 1 + 1 + 1) (cs := #[.int .i64 0, .int .i64 0, .slice none 0 0, .slice none 0 0]) rfl rfl rfl ?_ Try.underlying25 rfl (by kernel_rfl) rfl ?_
  · exact (HB3.out.grows hgW).set4
  · exact EdResI.zero (Grows.set4 (HG1.out.trans hgW) (by omega) _ _ _ _) _
end Go.Proofs.Ytbobpgegkmcapaa

