/-
  Walks: want of the laws. LayoutEdits.
-/
import Derived.Test.YtbobpgegkmcapaaRows
import Derived.Test.YtbobpgegkmcapaaE1
import Derived.Test.YtbobpgegkmcapaaE22
import Derived.Test.YtbobpgegkmcapaaE2
import Derived.Test.YtbobpgegkmcapaaE3
import Derived.Test.YtbobpgegkmcapaaE5
import Derived.Test.YtbobpgegkmcapaaE8
import Derived.Test.YtbobpgegkmcapaaE9
import Derived.Test.YtbobpgegkmcapaaE12
import Derived.Test.YtbobpgegkmcapaaE13
import Derived.Test.YtbobpgegkmcapaaE14
import Derived.Test.YtbobpgegkmcapaaE17
import Derived.Test.YtbobpgegkmcapaaE23
import Derived.Test.YtbobpgegkmcapaaE24
import Derived.WalkKit
import Derived.WalkSpells
import Derived.WalkLawsBesides
import Derived.Handy
import Derived.Laws.Rows
import Derived.Great.BuildSlice
import Derived.Deep.Heap
import Derived.IntWalk
import Derived.Lib.Hide
import Derived.Outline
import Derived.Deep.Light
import Derived.Deep.LoopGhost
import Derived.BigGuardPart
import Derived.BigQuiet
import Derived.Deep.QuietTactic
import Derived.Deep.RegionHeld3
import Derived.Deep.DeepCutAuto
import Derived.Deep.CutBlock
import Derived.OwnWalk
import Derived.Maps.AppendAt
namespace Go.Proofs.Ytbobpgegkmcapaa
open Go.RowKit

set_option maxRecDepth 100000 in
set_option maxHeartbeats 4000000 in
theorem want_even {S : Nat → Prop} (L : Lay) (xk xa xp xw xn pane : Int) (hr : rightL L = true) (k3 : (kindE0 xk == 3) = true) (vk vw : Value) (w : World) (hS : ∀ b, w.heap.size ≤ b → S b) (h : LayAt S w L vk vw) : Calls Try.prog 25 #[.agg #[.int .i64 L.kind, .int .i64 L.pane, vk, vw], .agg #[.int .i64 xk, .int .i64 xa, .int .i64 xp, .int .i64 xw, .int .i64 xn], .int .i64 pane] w (fun e w' => EdResI S w w' (evenL L, 0) e) := by
  have g3 : ((IntKind.u64.wrap xk).tmod 5 == 3) = true := k3
  obtain ⟨hok, hn, hnd⟩ := right_ok hr
  have HR := Lib.hid fun W (g : Grows w W) => right_any L _ _ W (h.grows g)
  rw [hr] at HR
  have HP := Lib.hid fun W (g : Grows w W) => rpanes_any L (by omega) _ _ W (h.grows g)
  obtain ⟨ka, kc, e1, -⟩ := h.kids.shape rfl
  obtain ⟨wa, wc, e2, -⟩ := h.ints.shape rfl
  subst e1 e2
  obtain ⟨pn, hpn⟩ : ∃ z, (panesL L).length = z := ⟨_, rfl⟩
  have HPN := Lib.hid hpn
  have hX := h.exc (m := w.heap.size + 1 + 1) (by omega)
  have HE := Lib.hid fun W (g : Grows w W) (hz : w.heap.size + 3 ≤ W.heap.size) => reven_any L hok (by omega) (Exc (w.heap.size + 1 + 1) S) _ _ W (exc_fresh (m := w.heap.size + 1 + 1) hS (by omega) (by omega)) (hX.grows g)
  obtain ⟨y, hq⟩ : ∃ y, evenL L = y := ⟨_, rfl⟩
  rw [hq] at HE ⊢
  clear h hS hr hok hn hnd hpn hX hq
  generalize L.kids.length = kn at *
  generalize L.ws.length = wn at *
  go_enter Try.func25, Try.ntmps25
  go_upto_region 1 with fail
  refine abs_worldM (fun W' => Grows w W' ∧ Blk W' w.heap.size 25 #[.int .i64 L.kind, .int .i64 L.pane, .slice ka kn kc, .slice wa wn wc] ∧ Blk W' (w.heap.size + 1) 54 #[.int .i64 xk, .int .i64 xa, .int .i64 xp, .int .i64 xw, .int .i64 xn] ∧ Blk W' (w.heap.size + 1 + 1) 25 #[.int .i64 0, .int .i64 0, .slice none 0 0, .slice none 0 0]) (boxes3 _ _ _ _) ?_
  rintro W1 ⟨hg1, hb0, hb1, hb3⟩
  have HB0 := Lib.hid hb0
  have HB1 := Lib.hid hb1
  have HB3 := Lib.hid hb3
  have HG1 := Lib.hid hg1
  have hs1 : w.heap.size + 3 ≤ W1.heap.size := by have := hb3.lt; omega
  clear hb0 hb1 hb3 hg1
  have HF := Lib.hid fun W (g : Grows W1 W) => facts25 (HB0.out.grows g) (HB1.out.grows g) (HB3.out.grows g)
  obtain ⟨⟨a0, a1, a2, a3⟩, ⟨b0, b1, b2, b3, b4⟩, ⟨c0, c1, c2, c3⟩, ⟨d0, d1, d2, d3⟩, hl0, hl1, hl3⟩ := HF.out _ (Grows.refl W1)
  go_wp2_with (first | (go_at_call 11; (go_must (with_reducible refine (HR.out _ HG1.out).mono ?_)); rintro e w1 ⟨rfl, hgW⟩; obtain ⟨⟨a0, a1, a2, a3⟩, ⟨b0, b1, b2, b3, b4⟩, ⟨c0, c1, c2, c3⟩, ⟨d0, d1, d2, d3⟩, hl0, hl1, hl3⟩ := HF.out _ hgW) | (go_at_call 22; (go_must (with_reducible refine (HP.out _ (HG1.out.trans hgW)).mono ?_)); rintro e w2 ⟨v2, rfl, hv2, hg2⟩; replace hgW := hgW.trans hg2; obtain ⟨va, vc, rfl, -, -⟩ := hv2.shape HPN.out; obtain ⟨⟨a0, a1, a2, a3⟩, ⟨b0, b1, b2, b3, b4⟩, ⟨c0, c1, c2, c3⟩, ⟨d0, d1, d2, d3⟩, hl0, hl1, hl3⟩ := HF.out _ hgW) | (go_at_call 42; (go_must (with_reducible refine (has_any _ _ _ _ hv2).mono ?_)); rintro e w3 ⟨rfl, rfl⟩) | (go_at_call 49; (go_must (with_reducible refine (HE.out _ (HG1.out.trans hgW) (Nat.le_trans hs1 hgW.size)).mono ?_)); rintro e w7 hE; obtain ⟨ka7, kc7, wa7, wc7, rfl, hl7, hg7⟩ := hE.open_; replace hgW := hgW.trans hg7; obtain ⟨⟨a0, a1, a2, a3⟩, ⟨b0, b1, b2, b3, b4⟩, ⟨c0, c1, c2, c3⟩, ⟨d0, d1, d2, d3⟩, hl0, hl1, hl3⟩ := HF.out _ hgW))
  all_goals (try (exfalso; omega))
  all_goals
    refine ret_cell_tmp (t := 25) (n := w.heap.size + 1 + 1) (cs := #[.int .i64 y.kind, .int .i64 y.pane, .slice ka7 y.kids.length kc7, .slice wa7 y.ws.length wc7]) rfl rfl rfl ?_ Try.underlying25 rfl (by kernel_rfl) rfl ?_
    · exact (HB3.out.grows hgW).set4
    · exact ⟨_, _, rfl, (hl7.same (exc_set4 _ _ _ _)).unexc, (HG1.out.trans hgW).set4 (by omega) _ _ _ _⟩
set_option maxRecDepth 100000 in
set_option maxHeartbeats 4000000 in
theorem want_split_ok {S : Nat → Prop} (L : Lay) (xk xa xp xw xn pane : Int) (hr : rightL L = true) (k3 : (kindE0 xk == 3) = false) (k0 : (kindE0 xk == 0) = true) (hp : pane ∈ panesL L) (hw : (xw == 2) = true ∨ ((xw == 2) = false ∧ (xw == 3) = true)) (h1 : ¬ xn < 0) (h2 : ¬ 999 < xn) (h3 : xn ∉ panesL L) (h4 : (panesL L).length ≠ 16) (vk vw : Value) (w : World) (hS : ∀ b, w.heap.size ≤ b → S b) (h : LayAt S w L vk vw) : Calls Try.prog 25 #[.agg #[.int .i64 L.kind, .int .i64 L.pane, vk, vw], .agg #[.int .i64 xk, .int .i64 xa, .int .i64 xp, .int .i64 xw, .int .i64 xn], .int .i64 pane] w (fun e w' => EdResI S w w' (rsplitL pane xw xn L, 0) e) := by
  have g3 : ((IntKind.u64.wrap xk).tmod 5 == 3) = false := k3
  have g0 : ((IntKind.u64.wrap xk).tmod 5 == 0) = true := k0
  have q0 : decide (pane ∈ panesL L) = true := decide_eq_true hp
  have q1 : decide (xn ∈ panesL L) = false := decide_eq_false h3
  obtain ⟨hok, hn, hnd⟩ := right_ok hr
  have HR := Lib.hid fun W (g : Grows w W) => right_any L _ _ W (h.grows g)
  rw [hr] at HR
  have HP := Lib.hid fun W (g : Grows w W) => rpanes_any L (by omega) _ _ W (h.grows g)
  obtain ⟨ka, kc, e1, -⟩ := h.kids.shape rfl
  obtain ⟨wa, wc, e2, -⟩ := h.ints.shape rfl
  subst e1 e2
  obtain ⟨pn, hpn⟩ : ∃ z, (panesL L).length = z := ⟨_, rfl⟩
  have HPN := Lib.hid hpn
  have hX := h.exc (m := w.heap.size + 1 + 1) (by omega)
  have HE := Lib.hid fun W (g : Grows w W) (hz : w.heap.size + 3 ≤ W.heap.size) => rsplit_any pane xw xn L hok (by omega) (Exc (w.heap.size + 1 + 1) S) _ _ W (exc_fresh (m := w.heap.size + 1 + 1) hS (by omega) (by omega)) (hX.grows g)
  obtain ⟨y, hq⟩ : ∃ y, rsplitL pane xw xn L = y := ⟨_, rfl⟩
  rw [hq] at HE ⊢
  have q2 : ((pn : Int) == 16) = false := by simp; omega
  clear h hS hr hok hn hnd hpn hX hq hp h3 h4
  generalize L.kids.length = kn at *
  generalize L.ws.length = wn at *
  rcases hw with v2 | ⟨v2, v3⟩
  all_goals
    go_enter Try.func25, Try.ntmps25
    go_upto_region 1 with fail
    refine abs_worldM (fun W' => Grows w W' ∧ Blk W' w.heap.size 25 #[.int .i64 L.kind, .int .i64 L.pane, .slice ka kn kc, .slice wa wn wc] ∧ Blk W' (w.heap.size + 1) 54 #[.int .i64 xk, .int .i64 xa, .int .i64 xp, .int .i64 xw, .int .i64 xn] ∧ Blk W' (w.heap.size + 1 + 1) 25 #[.int .i64 0, .int .i64 0, .slice none 0 0, .slice none 0 0]) (boxes3 _ _ _ _) ?_
    rintro W1 ⟨hg1, hb0, hb1, hb3⟩
    have HB0 := Lib.hid hb0
    have HB1 := Lib.hid hb1
    have HB3 := Lib.hid hb3
    have HG1 := Lib.hid hg1
    have hs1 : w.heap.size + 3 ≤ W1.heap.size := by have := hb3.lt; omega
    clear hb0 hb1 hb3 hg1
    have HF := Lib.hid fun W (g : Grows W1 W) => facts25 (HB0.out.grows g) (HB1.out.grows g) (HB3.out.grows g)
    obtain ⟨⟨a0, a1, a2, a3⟩, ⟨b0, b1, b2, b3, b4⟩, ⟨c0, c1, c2, c3⟩, ⟨d0, d1, d2, d3⟩, hl0, hl1, hl3⟩ := HF.out _ (Grows.refl W1)
    go_wp2_with (first | (go_at_call 11; (go_must (with_reducible refine (HR.out _ HG1.out).mono ?_)); rintro e w1 ⟨rfl, hgW⟩; obtain ⟨⟨a0, a1, a2, a3⟩, ⟨b0, b1, b2, b3, b4⟩, ⟨c0, c1, c2, c3⟩, ⟨d0, d1, d2, d3⟩, hl0, hl1, hl3⟩ := HF.out _ hgW) | (go_at_call 22; (go_must (with_reducible refine (HP.out _ (HG1.out.trans hgW)).mono ?_)); rintro e w2 ⟨v2, rfl, hv2, hg2⟩; replace hgW := hgW.trans hg2; obtain ⟨va, vc, rfl, -, -⟩ := hv2.shape HPN.out; obtain ⟨⟨a0, a1, a2, a3⟩, ⟨b0, b1, b2, b3, b4⟩, ⟨c0, c1, c2, c3⟩, ⟨d0, d1, d2, d3⟩, hl0, hl1, hl3⟩ := HF.out _ hgW) | (go_at_call 42; (go_must (with_reducible refine (has_any _ _ _ _ hv2).mono ?_)); rintro e w3 ⟨rfl, rfl⟩) | (go_at_call 50; (go_must (with_reducible refine (HE.out _ (HG1.out.trans hgW) (Nat.le_trans hs1 hgW.size)).mono ?_)); rintro e w7 hE; obtain ⟨ka7, kc7, wa7, wc7, rfl, hl7, hg7⟩ := hE.open_; replace hgW := hgW.trans hg7; obtain ⟨⟨a0, a1, a2, a3⟩, ⟨b0, b1, b2, b3, b4⟩, ⟨c0, c1, c2, c3⟩, ⟨d0, d1, d2, d3⟩, hl0, hl1, hl3⟩ := HF.out _ hgW))
    all_goals (try (exfalso; omega))
    all_goals
      refine ret_cell_tmp (t := 25) (n := w.heap.size + 1 + 1) (cs := #[.int .i64 y.kind, .int .i64 y.pane, .slice ka7 y.kids.length kc7, .slice wa7 y.ws.length wc7]) rfl rfl rfl ?_ Try.underlying25 rfl (by kernel_rfl) rfl ?_
      · exact (HB3.out.grows hgW).set4
      · exact ⟨_, _, rfl, (hl7.same (exc_set4 _ _ _ _)).unexc, (HG1.out.trans hgW).set4 (by omega) _ _ _ _⟩
set_option maxRecDepth 100000 in
set_option maxHeartbeats 4000000 in
theorem want_close_ok {S : Nat → Prop} (L : Lay) (xk xa xp xw xn pane : Int) (hr : rightL L = true) (k3 : (kindE0 xk == 3) = false) (k0 : (kindE0 xk == 0) = false) (k1 : (kindE0 xk == 1) = true) (hp : pane ∈ panesL L) (h4 : (panesL L).length ≠ 1) (vk vw : Value) (w : World) (hS : ∀ b, w.heap.size ≤ b → S b) (h : LayAt S w L vk vw) : Calls Try.prog 25 #[.agg #[.int .i64 L.kind, .int .i64 L.pane, vk, vw], .agg #[.int .i64 xk, .int .i64 xa, .int .i64 xp, .int .i64 xw, .int .i64 xn], .int .i64 pane] w (fun e w' => EdResI S w w' (rdropL pane L, 0) e) := by
  have g3 : ((IntKind.u64.wrap xk).tmod 5 == 3) = false := k3
  have g0 : ((IntKind.u64.wrap xk).tmod 5 == 0) = false := k0
  have g1 : ((IntKind.u64.wrap xk).tmod 5 == 1) = true := k1
  have q0 : decide (pane ∈ panesL L) = true := decide_eq_true hp
  obtain ⟨hok, hn, hnd⟩ := right_ok hr
  have HR := Lib.hid fun W (g : Grows w W) => right_any L _ _ W (h.grows g)
  rw [hr] at HR
  have HP := Lib.hid fun W (g : Grows w W) => rpanes_any L (by omega) _ _ W (h.grows g)
  obtain ⟨ka, kc, e1, -⟩ := h.kids.shape rfl
  obtain ⟨wa, wc, e2, -⟩ := h.ints.shape rfl
  subst e1 e2
  obtain ⟨pn, hpn⟩ : ∃ z, (panesL L).length = z := ⟨_, rfl⟩
  have HPN := Lib.hid hpn
  have hX := h.exc (m := w.heap.size + 1 + 1) (by omega)
  have HE := Lib.hid fun W (g : Grows w W) (hz : w.heap.size + 3 ≤ W.heap.size) => rdrop_any pane L hok hnd (by omega) (Exc (w.heap.size + 1 + 1) S) _ _ W (exc_fresh (m := w.heap.size + 1 + 1) hS (by omega) (by omega)) (hX.grows g)
  obtain ⟨y, hq⟩ : ∃ y, rdropL pane L = y := ⟨_, rfl⟩
  rw [hq] at HE ⊢
  have q2 : ((pn : Int) == 1) = false := by simp; omega
  clear h hS hr hok hn hnd hpn hX hq hp h4
  generalize L.kids.length = kn at *
  generalize L.ws.length = wn at *
  go_enter Try.func25, Try.ntmps25
  go_upto_region 1 with fail
  refine abs_worldM (fun W' => Grows w W' ∧ Blk W' w.heap.size 25 #[.int .i64 L.kind, .int .i64 L.pane, .slice ka kn kc, .slice wa wn wc] ∧ Blk W' (w.heap.size + 1) 54 #[.int .i64 xk, .int .i64 xa, .int .i64 xp, .int .i64 xw, .int .i64 xn] ∧ Blk W' (w.heap.size + 1 + 1) 25 #[.int .i64 0, .int .i64 0, .slice none 0 0, .slice none 0 0]) (boxes3 _ _ _ _) ?_
  rintro W1 ⟨hg1, hb0, hb1, hb3⟩
  have HB0 := Lib.hid hb0
  have HB1 := Lib.hid hb1
  have HB3 := Lib.hid hb3
  have HG1 := Lib.hid hg1
  have hs1 : w.heap.size + 3 ≤ W1.heap.size := by have := hb3.lt; omega
  clear hb0 hb1 hb3 hg1
  have HF := Lib.hid fun W (g : Grows W1 W) => facts25 (HB0.out.grows g) (HB1.out.grows g) (HB3.out.grows g)
  obtain ⟨⟨a0, a1, a2, a3⟩, ⟨b0, b1, b2, b3, b4⟩, ⟨c0, c1, c2, c3⟩, ⟨d0, d1, d2, d3⟩, hl0, hl1, hl3⟩ := HF.out _ (Grows.refl W1)
  go_wp2_with (first | (go_at_call 11; (go_must (with_reducible refine (HR.out _ HG1.out).mono ?_)); rintro e w1 ⟨rfl, hgW⟩; obtain ⟨⟨a0, a1, a2, a3⟩, ⟨b0, b1, b2, b3, b4⟩, ⟨c0, c1, c2, c3⟩, ⟨d0, d1, d2, d3⟩, hl0, hl1, hl3⟩ := HF.out _ hgW) | (go_at_call 22; (go_must (with_reducible refine (HP.out _ (HG1.out.trans hgW)).mono ?_)); rintro e w2 ⟨v2, rfl, hv2, hg2⟩; replace hgW := hgW.trans hg2; obtain ⟨va, vc, rfl, -, -⟩ := hv2.shape HPN.out; obtain ⟨⟨a0, a1, a2, a3⟩, ⟨b0, b1, b2, b3, b4⟩, ⟨c0, c1, c2, c3⟩, ⟨d0, d1, d2, d3⟩, hl0, hl1, hl3⟩ := HF.out _ hgW) | (go_at_call 42; (go_must (with_reducible refine (has_any _ _ _ _ hv2).mono ?_)); rintro e w3 ⟨rfl, rfl⟩) | (go_at_call 51; (go_must (with_reducible refine (HE.out _ (HG1.out.trans hgW) (Nat.le_trans hs1 hgW.size)).mono ?_)); rintro e w7 hE; obtain ⟨ka7, kc7, wa7, wc7, rfl, hl7, hg7⟩ := hE.open_; replace hgW := hgW.trans hg7; obtain ⟨⟨a0, a1, a2, a3⟩, ⟨b0, b1, b2, b3, b4⟩, ⟨c0, c1, c2, c3⟩, ⟨d0, d1, d2, d3⟩, hl0, hl1, hl3⟩ := HF.out _ hgW))
  all_goals (try (exfalso; omega))
  all_goals
    refine ret_cell_tmp (t := 25) (n := w.heap.size + 1 + 1) (cs := #[.int .i64 y.kind, .int .i64 y.pane, .slice ka7 y.kids.length kc7, .slice wa7 y.ws.length wc7]) rfl rfl rfl ?_ Try.underlying25 rfl (by kernel_rfl) rfl ?_
    · exact (HB3.out.grows hgW).set4
    · exact ⟨_, _, rfl, (hl7.same (exc_set4 _ _ _ _)).unexc, (HG1.out.trans hgW).set4 (by omega) _ _ _ _⟩
set_option maxRecDepth 100000 in
set_option maxHeartbeats 4000000 in
theorem want_swap_ok {S : Nat → Prop} (L : Lay) (xk xa xp xw xn pane : Int) (hr : rightL L = true) (k3 : (kindE0 xk == 3) = false) (k0 : (kindE0 xk == 0) = false) (k1 : (kindE0 xk == 1) = false) (k2 : (kindE0 xk == 2) = false) (hp : pane ∈ panesL L) (h3 : xn ∈ panesL L) (vk vw : Value) (w : World) (hS : ∀ b, w.heap.size ≤ b → S b) (h : LayAt S w L vk vw) : Calls Try.prog 25 #[.agg #[.int .i64 L.kind, .int .i64 L.pane, vk, vw], .agg #[.int .i64 xk, .int .i64 xa, .int .i64 xp, .int .i64 xw, .int .i64 xn], .int .i64 pane] w (fun e w' => EdResI S w w' (swapL pane xn L, 0) e) := by
  have g3 : ((IntKind.u64.wrap xk).tmod 5 == 3) = false := k3
  have g0 : ((IntKind.u64.wrap xk).tmod 5 == 0) = false := k0
  have g1 : ((IntKind.u64.wrap xk).tmod 5 == 1) = false := k1
  have g2 : ((IntKind.u64.wrap xk).tmod 5 == 2) = false := k2
  have q0 : decide (pane ∈ panesL L) = true := decide_eq_true hp
  have q1 : decide (xn ∈ panesL L) = true := decide_eq_true h3
  obtain ⟨hok, hn, hnd⟩ := right_ok hr
  have HR := Lib.hid fun W (g : Grows w W) => right_any L _ _ W (h.grows g)
  rw [hr] at HR
  have HP := Lib.hid fun W (g : Grows w W) => rpanes_any L (by omega) _ _ W (h.grows g)
  obtain ⟨ka, kc, e1, -⟩ := h.kids.shape rfl
  obtain ⟨wa, wc, e2, -⟩ := h.ints.shape rfl
  subst e1 e2
  obtain ⟨pn, hpn⟩ : ∃ z, (panesL L).length = z := ⟨_, rfl⟩
  have HPN := Lib.hid hpn
  have hX := h.exc (m := w.heap.size + 1 + 1) (by omega)
  have HE := Lib.hid fun W (g : Grows w W) (hz : w.heap.size + 3 ≤ W.heap.size) => rswap_any pane xn L hok (by omega) (Exc (w.heap.size + 1 + 1) S) _ _ W (exc_fresh (m := w.heap.size + 1 + 1) hS (by omega) (by omega)) (hX.grows g)
  obtain ⟨y, hq⟩ : ∃ y, swapL pane xn L = y := ⟨_, rfl⟩
  rw [hq] at HE ⊢
  clear h hS hr hok hn hnd hpn hX hq hp h3
  generalize L.kids.length = kn at *
  generalize L.ws.length = wn at *
  go_enter Try.func25, Try.ntmps25
  go_upto_region 1 with fail
  refine abs_worldM (fun W' => Grows w W' ∧ Blk W' w.heap.size 25 #[.int .i64 L.kind, .int .i64 L.pane, .slice ka kn kc, .slice wa wn wc] ∧ Blk W' (w.heap.size + 1) 54 #[.int .i64 xk, .int .i64 xa, .int .i64 xp, .int .i64 xw, .int .i64 xn] ∧ Blk W' (w.heap.size + 1 + 1) 25 #[.int .i64 0, .int .i64 0, .slice none 0 0, .slice none 0 0]) (boxes3 _ _ _ _) ?_
  rintro W1 ⟨hg1, hb0, hb1, hb3⟩
  have HB0 := Lib.hid hb0
  have HB1 := Lib.hid hb1
  have HB3 := Lib.hid hb3
  have HG1 := Lib.hid hg1
  have hs1 : w.heap.size + 3 ≤ W1.heap.size := by have := hb3.lt; omega
  clear hb0 hb1 hb3 hg1
  have HF := Lib.hid fun W (g : Grows W1 W) => facts25 (HB0.out.grows g) (HB1.out.grows g) (HB3.out.grows g)
  obtain ⟨⟨a0, a1, a2, a3⟩, ⟨b0, b1, b2, b3, b4⟩, ⟨c0, c1, c2, c3⟩, ⟨d0, d1, d2, d3⟩, hl0, hl1, hl3⟩ := HF.out _ (Grows.refl W1)
  go_wp2_with (first | (go_at_call 11; (go_must (with_reducible refine (HR.out _ HG1.out).mono ?_)); rintro e w1 ⟨rfl, hgW⟩; obtain ⟨⟨a0, a1, a2, a3⟩, ⟨b0, b1, b2, b3, b4⟩, ⟨c0, c1, c2, c3⟩, ⟨d0, d1, d2, d3⟩, hl0, hl1, hl3⟩ := HF.out _ hgW) | (go_at_call 22; (go_must (with_reducible refine (HP.out _ (HG1.out.trans hgW)).mono ?_)); rintro e w2 ⟨v2, rfl, hv2, hg2⟩; replace hgW := hgW.trans hg2; obtain ⟨va, vc, rfl, -, -⟩ := hv2.shape HPN.out; obtain ⟨⟨a0, a1, a2, a3⟩, ⟨b0, b1, b2, b3, b4⟩, ⟨c0, c1, c2, c3⟩, ⟨d0, d1, d2, d3⟩, hl0, hl1, hl3⟩ := HF.out _ hgW) | (go_at_call 42; (go_must (with_reducible refine (has_any _ _ _ _ hv2).mono ?_)); rintro e w3 ⟨rfl, rfl⟩) | (go_at_call 53; (go_must (with_reducible refine (HE.out _ (HG1.out.trans hgW) (Nat.le_trans hs1 hgW.size)).mono ?_)); rintro e w7 hE; obtain ⟨ka7, kc7, wa7, wc7, rfl, hl7, hg7⟩ := hE.open_; replace hgW := hgW.trans hg7; obtain ⟨⟨a0, a1, a2, a3⟩, ⟨b0, b1, b2, b3, b4⟩, ⟨c0, c1, c2, c3⟩, ⟨d0, d1, d2, d3⟩, hl0, hl1, hl3⟩ := HF.out _ hgW))
  all_goals (try (exfalso; omega))
  all_goals
    refine ret_cell_tmp (t := 25) (n := w.heap.size + 1 + 1) (cs := #[.int .i64 y.kind, .int .i64 y.pane, .slice ka7 y.kids.length kc7, .slice wa7 y.ws.length wc7]) rfl rfl rfl ?_ Try.underlying25 rfl (by kernel_rfl) rfl ?_
    · exact (HB3.out.grows hgW).set4
    · exact ⟨_, _, rfl, (hl7.same (exc_set4 _ _ _ _)).unexc, (HG1.out.trans hgW).set4 (by omega) _ _ _ _⟩
set_option maxRecDepth 100000 in
set_option maxHeartbeats 4000000 in
theorem want_resize_bad_true {S : Nat → Prop} (L : Lay) (xk xa xp xw xn pane : Int) (hr : rightL L = true) (k3 : (kindE0 xk == 3) = false) (k0 : (kindE0 xk == 0) = false) (k1 : (kindE0 xk == 1) = false) (k2 : (kindE0 xk == 2) = true) (hp : pane ∈ panesL L) (hw : ¬ (xw = 2 ∨ xw = 3)) (y : Lay) (hq : replL (resizeE2 xw xn) pane L = (y, true)) (vk vw : Value) (w : World) (hS : ∀ b, w.heap.size ≤ b → S b) (h : LayAt S w L vk vw) : Calls Try.prog 25 #[.agg #[.int .i64 L.kind, .int .i64 L.pane, vk, vw], .agg #[.int .i64 xk, .int .i64 xa, .int .i64 xp, .int .i64 xw, .int .i64 xn], .int .i64 pane] w (fun e w' => EdResI S w w' (zeroL, 2) e) := by
  have g3 : ((IntKind.u64.wrap xk).tmod 5 == 3) = false := k3
  have g0 : ((IntKind.u64.wrap xk).tmod 5 == 0) = false := k0
  have g1 : ((IntKind.u64.wrap xk).tmod 5 == 1) = false := k1
  have g2 : ((IntKind.u64.wrap xk).tmod 5 == 2) = true := k2
  have q0 : decide (pane ∈ panesL L) = true := decide_eq_true hp
  have u2 : (xw == 2) = false := by simpa using fun h => hw (.inl h)
  have u3 : (xw == 3) = false := by simpa using fun h => hw (.inr h)
  obtain ⟨hok, hn, hnd⟩ := right_ok hr
  have HR := Lib.hid fun W (g : Grows w W) => right_any L _ _ W (h.grows g)
  rw [hr] at HR
  have HP := Lib.hid fun W (g : Grows w W) => rpanes_any L (by omega) _ _ W (h.grows g)
  obtain ⟨ka, kc, e1, -⟩ := h.kids.shape rfl
  obtain ⟨wa, wc, e2, -⟩ := h.ints.shape rfl
  subst e1 e2
  obtain ⟨pn, hpn⟩ : ∃ z, (panesL L).length = z := ⟨_, rfl⟩
  have HPN := Lib.hid hpn
  have hX := h.exc (m := w.heap.size + 1 + 1) (by omega)
  have HE := Lib.hid fun W (g : Grows w W) (hz : w.heap.size + 3 ≤ W.heap.size) => rresize_any pane xw xn L hok (by omega) (Exc (w.heap.size + 1 + 1) S) _ _ W (exc_fresh (m := w.heap.size + 1 + 1) hS (by omega) (by omega)) (hX.grows g)
  rw [hq] at HE
  clear h hS hr hok hn hnd hpn hX hq hp hw
  generalize L.kids.length = kn at *
  generalize L.ws.length = wn at *
  go_enter Try.func25, Try.ntmps25
  go_upto_region 1 with fail
  refine abs_worldM (fun W' => Grows w W' ∧ Blk W' w.heap.size 25 #[.int .i64 L.kind, .int .i64 L.pane, .slice ka kn kc, .slice wa wn wc] ∧ Blk W' (w.heap.size + 1) 54 #[.int .i64 xk, .int .i64 xa, .int .i64 xp, .int .i64 xw, .int .i64 xn] ∧ Blk W' (w.heap.size + 1 + 1) 25 #[.int .i64 0, .int .i64 0, .slice none 0 0, .slice none 0 0]) (boxes3 _ _ _ _) ?_
  rintro W1 ⟨hg1, hb0, hb1, hb3⟩
  have HB0 := Lib.hid hb0
  have HB1 := Lib.hid hb1
  have HB3 := Lib.hid hb3
  have HG1 := Lib.hid hg1
  have hs1 : w.heap.size + 3 ≤ W1.heap.size := by have := hb3.lt; omega
  clear hb0 hb1 hb3 hg1
  have HF := Lib.hid fun W (g : Grows W1 W) => facts25 (HB0.out.grows g) (HB1.out.grows g) (HB3.out.grows g)
  obtain ⟨⟨a0, a1, a2, a3⟩, ⟨b0, b1, b2, b3, b4⟩, ⟨c0, c1, c2, c3⟩, ⟨d0, d1, d2, d3⟩, hl0, hl1, hl3⟩ := HF.out _ (Grows.refl W1)
  go_upto_region 23 with (first | (go_at_call 11; (go_must (with_reducible refine (HR.out _ HG1.out).mono ?_)); rintro e w1 ⟨rfl, hgW⟩; obtain ⟨⟨a0, a1, a2, a3⟩, ⟨b0, b1, b2, b3, b4⟩, ⟨c0, c1, c2, c3⟩, ⟨d0, d1, d2, d3⟩, hl0, hl1, hl3⟩ := HF.out _ hgW) | (go_at_call 22; (go_must (with_reducible refine (HP.out _ (HG1.out.trans hgW)).mono ?_)); rintro e w2 ⟨v2, rfl, hv2, hg2⟩; replace hgW := hgW.trans hg2; obtain ⟨va, vc, rfl, -, -⟩ := hv2.shape HPN.out; obtain ⟨⟨a0, a1, a2, a3⟩, ⟨b0, b1, b2, b3, b4⟩, ⟨c0, c1, c2, c3⟩, ⟨d0, d1, d2, d3⟩, hl0, hl1, hl3⟩ := HF.out _ hgW) | (go_at_call 42; (go_must (with_reducible refine (has_any _ _ _ _ hv2).mono ?_)); rintro e w3 ⟨rfl, rfl⟩) | (go_at_call 52; (go_must (with_reducible refine (HE.out _ (HG1.out.trans hgW) (Nat.le_trans hs1 hgW.size)).mono ?_)); rintro e w7 hE; obtain ⟨vk7, vw7, rfl, hl7, hg7⟩ := hE.open_; obtain ⟨ka7, kc7, rfl, -⟩ := hl7.kids.shape rfl; obtain ⟨wa7, wc7, rfl, -⟩ := hl7.ints.shape rfl; replace hgW := hgW.trans hg7; obtain ⟨⟨a0, a1, a2, a3⟩, ⟨b0, b1, b2, b3, b4⟩, ⟨c0, c1, c2, c3⟩, ⟨d0, d1, d2, d3⟩, hl0, hl1, hl3⟩ := HF.out _ hgW))
  all_goals
    have HL7 := Lib.hid hl7
    have hgW5 := hgW
    refine abs_worldM (fun W' => Grows w7 W' ∧ Blk W' w7.heap.size 25 #[.int .i64 y.kind, .int .i64 y.pane, .slice ka7 y.kids.length kc7, .slice wa7 y.ws.length wc7]) ⟨(by repeat' (first | (with_reducible exact Grows.refl _) | (with_reducible refine Grows.alloc ?_ _) | (with_reducible refine Grows.drew ?_) | (with_reducible refine Grows.ext ?_ _ _))), Blk.new (by simp)⟩ ?_
    rintro W6 ⟨hg6, hb6⟩
    replace hgW : Grows W1 W6 := hgW5.trans hg6
    obtain ⟨m0, m1, m2, m3⟩ := hb6.four
    have hlm := hb6.lt
    obtain ⟨⟨a0, a1, a2, a3⟩, ⟨b0, b1, b2, b3, b4⟩, ⟨c0, c1, c2, c3⟩, ⟨d0, d1, d2, d3⟩, hl0, hl1, hl3⟩ := HF.out _ hgW
    clear hl7
    generalize y.kids.length = yk at *
    generalize y.ws.length = yw at *
    go_wp2_with fail
  all_goals
    refine ret_cell_tmp (t := 25) (n := w.heap.size + 1 + 1) (cs := #[.int .i64 0, .int .i64 0, .slice none 0 0, .slice none 0 0]) rfl rfl rfl ?_ Try.underlying25 rfl (by kernel_rfl) rfl ?_
    · exact (HB3.out.grows hgW).set4
    · exact EdResI.zero (Grows.set4 (HG1.out.trans hgW) (by omega) _ _ _ _) _
set_option maxRecDepth 100000 in
set_option maxHeartbeats 4000000 in
theorem want_resize_bad_false {S : Nat → Prop} (L : Lay) (xk xa xp xw xn pane : Int) (hr : rightL L = true) (k3 : (kindE0 xk == 3) = false) (k0 : (kindE0 xk == 0) = false) (k1 : (kindE0 xk == 1) = false) (k2 : (kindE0 xk == 2) = true) (hp : pane ∈ panesL L) (hw : ¬ (xw = 2 ∨ xw = 3)) (y : Lay) (hq : replL (resizeE2 xw xn) pane L = (y, false)) (vk vw : Value) (w : World) (hS : ∀ b, w.heap.size ≤ b → S b) (h : LayAt S w L vk vw) : Calls Try.prog 25 #[.agg #[.int .i64 L.kind, .int .i64 L.pane, vk, vw], .agg #[.int .i64 xk, .int .i64 xa, .int .i64 xp, .int .i64 xw, .int .i64 xn], .int .i64 pane] w (fun e w' => EdResI S w w' (zeroL, 2) e) := by
  have g3 : ((IntKind.u64.wrap xk).tmod 5 == 3) = false := k3
  have g0 : ((IntKind.u64.wrap xk).tmod 5 == 0) = false := k0
  have g1 : ((IntKind.u64.wrap xk).tmod 5 == 1) = false := k1
  have g2 : ((IntKind.u64.wrap xk).tmod 5 == 2) = true := k2
  have q0 : decide (pane ∈ panesL L) = true := decide_eq_true hp
  have u2 : (xw == 2) = false := by simpa using fun h => hw (.inl h)
  have u3 : (xw == 3) = false := by simpa using fun h => hw (.inr h)
  obtain ⟨hok, hn, hnd⟩ := right_ok hr
  have HR := Lib.hid fun W (g : Grows w W) => right_any L _ _ W (h.grows g)
  rw [hr] at HR
  have HP := Lib.hid fun W (g : Grows w W) => rpanes_any L (by omega) _ _ W (h.grows g)
  obtain ⟨ka, kc, e1, -⟩ := h.kids.shape rfl
  obtain ⟨wa, wc, e2, -⟩ := h.ints.shape rfl
  subst e1 e2
  obtain ⟨pn, hpn⟩ : ∃ z, (panesL L).length = z := ⟨_, rfl⟩
  have HPN := Lib.hid hpn
  have hX := h.exc (m := w.heap.size + 1 + 1) (by omega)
  have HE := Lib.hid fun W (g : Grows w W) (hz : w.heap.size + 3 ≤ W.heap.size) => rresize_any pane xw xn L hok (by omega) (Exc (w.heap.size + 1 + 1) S) _ _ W (exc_fresh (m := w.heap.size + 1 + 1) hS (by omega) (by omega)) (hX.grows g)
  rw [hq] at HE
  clear h hS hr hok hn hnd hpn hX hq hp hw
  generalize L.kids.length = kn at *
  generalize L.ws.length = wn at *
  go_enter Try.func25, Try.ntmps25
  go_upto_region 1 with fail
  refine abs_worldM (fun W' => Grows w W' ∧ Blk W' w.heap.size 25 #[.int .i64 L.kind, .int .i64 L.pane, .slice ka kn kc, .slice wa wn wc] ∧ Blk W' (w.heap.size + 1) 54 #[.int .i64 xk, .int .i64 xa, .int .i64 xp, .int .i64 xw, .int .i64 xn] ∧ Blk W' (w.heap.size + 1 + 1) 25 #[.int .i64 0, .int .i64 0, .slice none 0 0, .slice none 0 0]) (boxes3 _ _ _ _) ?_
  rintro W1 ⟨hg1, hb0, hb1, hb3⟩
  have HB0 := Lib.hid hb0
  have HB1 := Lib.hid hb1
  have HB3 := Lib.hid hb3
  have HG1 := Lib.hid hg1
  have hs1 : w.heap.size + 3 ≤ W1.heap.size := by have := hb3.lt; omega
  clear hb0 hb1 hb3 hg1
  have HF := Lib.hid fun W (g : Grows W1 W) => facts25 (HB0.out.grows g) (HB1.out.grows g) (HB3.out.grows g)
  obtain ⟨⟨a0, a1, a2, a3⟩, ⟨b0, b1, b2, b3, b4⟩, ⟨c0, c1, c2, c3⟩, ⟨d0, d1, d2, d3⟩, hl0, hl1, hl3⟩ := HF.out _ (Grows.refl W1)
  go_upto_region 23 with (first | (go_at_call 11; (go_must (with_reducible refine (HR.out _ HG1.out).mono ?_)); rintro e w1 ⟨rfl, hgW⟩; obtain ⟨⟨a0, a1, a2, a3⟩, ⟨b0, b1, b2, b3, b4⟩, ⟨c0, c1, c2, c3⟩, ⟨d0, d1, d2, d3⟩, hl0, hl1, hl3⟩ := HF.out _ hgW) | (go_at_call 22; (go_must (with_reducible refine (HP.out _ (HG1.out.trans hgW)).mono ?_)); rintro e w2 ⟨v2, rfl, hv2, hg2⟩; replace hgW := hgW.trans hg2; obtain ⟨va, vc, rfl, -, -⟩ := hv2.shape HPN.out; obtain ⟨⟨a0, a1, a2, a3⟩, ⟨b0, b1, b2, b3, b4⟩, ⟨c0, c1, c2, c3⟩, ⟨d0, d1, d2, d3⟩, hl0, hl1, hl3⟩ := HF.out _ hgW) | (go_at_call 42; (go_must (with_reducible refine (has_any _ _ _ _ hv2).mono ?_)); rintro e w3 ⟨rfl, rfl⟩) | (go_at_call 52; (go_must (with_reducible refine (HE.out _ (HG1.out.trans hgW) (Nat.le_trans hs1 hgW.size)).mono ?_)); rintro e w7 hE; obtain ⟨vk7, vw7, rfl, hl7, hg7⟩ := hE.open_; obtain ⟨ka7, kc7, rfl, -⟩ := hl7.kids.shape rfl; obtain ⟨wa7, wc7, rfl, -⟩ := hl7.ints.shape rfl; replace hgW := hgW.trans hg7; obtain ⟨⟨a0, a1, a2, a3⟩, ⟨b0, b1, b2, b3, b4⟩, ⟨c0, c1, c2, c3⟩, ⟨d0, d1, d2, d3⟩, hl0, hl1, hl3⟩ := HF.out _ hgW))
  all_goals
    have HL7 := Lib.hid hl7
    have hgW5 := hgW
    refine abs_worldM (fun W' => Grows w7 W' ∧ Blk W' w7.heap.size 25 #[.int .i64 y.kind, .int .i64 y.pane, .slice ka7 y.kids.length kc7, .slice wa7 y.ws.length wc7]) ⟨(by repeat' (first | (with_reducible exact Grows.refl _) | (with_reducible refine Grows.alloc ?_ _) | (with_reducible refine Grows.drew ?_) | (with_reducible refine Grows.ext ?_ _ _))), Blk.new (by simp)⟩ ?_
    rintro W6 ⟨hg6, hb6⟩
    replace hgW : Grows W1 W6 := hgW5.trans hg6
    obtain ⟨m0, m1, m2, m3⟩ := hb6.four
    have hlm := hb6.lt
    obtain ⟨⟨a0, a1, a2, a3⟩, ⟨b0, b1, b2, b3, b4⟩, ⟨c0, c1, c2, c3⟩, ⟨d0, d1, d2, d3⟩, hl0, hl1, hl3⟩ := HF.out _ hgW
    clear hl7
    generalize y.kids.length = yk at *
    generalize y.ws.length = yw at *
    go_wp2_with fail
  all_goals
    refine ret_cell_tmp (t := 25) (n := w.heap.size + 1 + 1) (cs := #[.int .i64 0, .int .i64 0, .slice none 0 0, .slice none 0 0]) rfl rfl rfl ?_ Try.underlying25 rfl (by kernel_rfl) rfl ?_
    · exact (HB3.out.grows hgW).set4
    · exact EdResI.zero (Grows.set4 (HG1.out.trans hgW) (by omega) _ _ _ _) _
set_option maxRecDepth 100000 in
set_option maxHeartbeats 4000000 in
theorem want_resize_no {S : Nat → Prop} (L : Lay) (xk xa xp xw xn pane : Int) (hr : rightL L = true) (k3 : (kindE0 xk == 3) = false) (k0 : (kindE0 xk == 0) = false) (k1 : (kindE0 xk == 1) = false) (k2 : (kindE0 xk == 2) = true) (hp : pane ∈ panesL L) (hw : (xw == 2) = true ∨ ((xw == 2) = false ∧ (xw == 3) = true)) (y : Lay) (hq : replL (resizeE2 xw xn) pane L = (y, false)) (vk vw : Value) (w : World) (hS : ∀ b, w.heap.size ≤ b → S b) (h : LayAt S w L vk vw) : Calls Try.prog 25 #[.agg #[.int .i64 L.kind, .int .i64 L.pane, vk, vw], .agg #[.int .i64 xk, .int .i64 xa, .int .i64 xp, .int .i64 xw, .int .i64 xn], .int .i64 pane] w (fun e w' => EdResI S w w' (zeroL, 2) e) := by
  have g3 : ((IntKind.u64.wrap xk).tmod 5 == 3) = false := k3
  have g0 : ((IntKind.u64.wrap xk).tmod 5 == 0) = false := k0
  have g1 : ((IntKind.u64.wrap xk).tmod 5 == 1) = false := k1
  have g2 : ((IntKind.u64.wrap xk).tmod 5 == 2) = true := k2
  have q0 : decide (pane ∈ panesL L) = true := decide_eq_true hp
  obtain ⟨hok, hn, hnd⟩ := right_ok hr
  have HR := Lib.hid fun W (g : Grows w W) => right_any L _ _ W (h.grows g)
  rw [hr] at HR
  have HP := Lib.hid fun W (g : Grows w W) => rpanes_any L (by omega) _ _ W (h.grows g)
  obtain ⟨ka, kc, e1, -⟩ := h.kids.shape rfl
  obtain ⟨wa, wc, e2, -⟩ := h.ints.shape rfl
  subst e1 e2
  obtain ⟨pn, hpn⟩ : ∃ z, (panesL L).length = z := ⟨_, rfl⟩
  have HPN := Lib.hid hpn
  have hX := h.exc (m := w.heap.size + 1 + 1) (by omega)
  have HE := Lib.hid fun W (g : Grows w W) (hz : w.heap.size + 3 ≤ W.heap.size) => rresize_any pane xw xn L hok (by omega) (Exc (w.heap.size + 1 + 1) S) _ _ W (exc_fresh (m := w.heap.size + 1 + 1) hS (by omega) (by omega)) (hX.grows g)
  rw [hq] at HE
  clear h hS hr hok hn hnd hpn hX hq hp
  generalize L.kids.length = kn at *
  generalize L.ws.length = wn at *
  rcases hw with v2 | ⟨v2, v3⟩
  all_goals
    go_enter Try.func25, Try.ntmps25
    go_upto_region 1 with fail
    refine abs_worldM (fun W' => Grows w W' ∧ Blk W' w.heap.size 25 #[.int .i64 L.kind, .int .i64 L.pane, .slice ka kn kc, .slice wa wn wc] ∧ Blk W' (w.heap.size + 1) 54 #[.int .i64 xk, .int .i64 xa, .int .i64 xp, .int .i64 xw, .int .i64 xn] ∧ Blk W' (w.heap.size + 1 + 1) 25 #[.int .i64 0, .int .i64 0, .slice none 0 0, .slice none 0 0]) (boxes3 _ _ _ _) ?_
    rintro W1 ⟨hg1, hb0, hb1, hb3⟩
    have HB0 := Lib.hid hb0
    have HB1 := Lib.hid hb1
    have HB3 := Lib.hid hb3
    have HG1 := Lib.hid hg1
    have hs1 : w.heap.size + 3 ≤ W1.heap.size := by have := hb3.lt; omega
    clear hb0 hb1 hb3 hg1
    have HF := Lib.hid fun W (g : Grows W1 W) => facts25 (HB0.out.grows g) (HB1.out.grows g) (HB3.out.grows g)
    obtain ⟨⟨a0, a1, a2, a3⟩, ⟨b0, b1, b2, b3, b4⟩, ⟨c0, c1, c2, c3⟩, ⟨d0, d1, d2, d3⟩, hl0, hl1, hl3⟩ := HF.out _ (Grows.refl W1)
    go_upto_region 23 with (first | (go_at_call 11; (go_must (with_reducible refine (HR.out _ HG1.out).mono ?_)); rintro e w1 ⟨rfl, hgW⟩; obtain ⟨⟨a0, a1, a2, a3⟩, ⟨b0, b1, b2, b3, b4⟩, ⟨c0, c1, c2, c3⟩, ⟨d0, d1, d2, d3⟩, hl0, hl1, hl3⟩ := HF.out _ hgW) | (go_at_call 22; (go_must (with_reducible refine (HP.out _ (HG1.out.trans hgW)).mono ?_)); rintro e w2 ⟨v2, rfl, hv2, hg2⟩; replace hgW := hgW.trans hg2; obtain ⟨va, vc, rfl, -, -⟩ := hv2.shape HPN.out; obtain ⟨⟨a0, a1, a2, a3⟩, ⟨b0, b1, b2, b3, b4⟩, ⟨c0, c1, c2, c3⟩, ⟨d0, d1, d2, d3⟩, hl0, hl1, hl3⟩ := HF.out _ hgW) | (go_at_call 42; (go_must (with_reducible refine (has_any _ _ _ _ hv2).mono ?_)); rintro e w3 ⟨rfl, rfl⟩) | (go_at_call 52; (go_must (with_reducible refine (HE.out _ (HG1.out.trans hgW) (Nat.le_trans hs1 hgW.size)).mono ?_)); rintro e w7 hE; obtain ⟨vk7, vw7, rfl, hl7, hg7⟩ := hE.open_; obtain ⟨ka7, kc7, rfl, -⟩ := hl7.kids.shape rfl; obtain ⟨wa7, wc7, rfl, -⟩ := hl7.ints.shape rfl; replace hgW := hgW.trans hg7; obtain ⟨⟨a0, a1, a2, a3⟩, ⟨b0, b1, b2, b3, b4⟩, ⟨c0, c1, c2, c3⟩, ⟨d0, d1, d2, d3⟩, hl0, hl1, hl3⟩ := HF.out _ hgW))
    all_goals
      have HL7 := Lib.hid hl7
      have hgW5 := hgW
      refine abs_worldM (fun W' => Grows w7 W' ∧ Blk W' w7.heap.size 25 #[.int .i64 y.kind, .int .i64 y.pane, .slice ka7 y.kids.length kc7, .slice wa7 y.ws.length wc7]) ⟨(by repeat' (first | (with_reducible exact Grows.refl _) | (with_reducible refine Grows.alloc ?_ _) | (with_reducible refine Grows.drew ?_) | (with_reducible refine Grows.ext ?_ _ _))), Blk.new (by simp)⟩ ?_
      rintro W6 ⟨hg6, hb6⟩
      replace hgW : Grows W1 W6 := hgW5.trans hg6
      obtain ⟨m0, m1, m2, m3⟩ := hb6.four
      have hlm := hb6.lt
      obtain ⟨⟨a0, a1, a2, a3⟩, ⟨b0, b1, b2, b3, b4⟩, ⟨c0, c1, c2, c3⟩, ⟨d0, d1, d2, d3⟩, hl0, hl1, hl3⟩ := HF.out _ hgW
      clear hl7
      generalize y.kids.length = yk at *
      generalize y.ws.length = yw at *
      go_wp2_with fail
    all_goals
      refine ret_cell_tmp (t := 25) (n := w.heap.size + 1 + 1) (cs := #[.int .i64 0, .int .i64 0, .slice none 0 0, .slice none 0 0]) rfl rfl rfl ?_ Try.underlying25 rfl (by kernel_rfl) rfl ?_
      · exact (HB3.out.grows hgW).set4
      · exact EdResI.zero (Grows.set4 (HG1.out.trans hgW) (by omega) _ _ _ _) _
set_option maxRecDepth 100000 in
set_option maxHeartbeats 4000000 in
theorem want_resize_ok {S : Nat → Prop} (L : Lay) (xk xa xp xw xn pane : Int) (hr : rightL L = true) (k3 : (kindE0 xk == 3) = false) (k0 : (kindE0 xk == 0) = false) (k1 : (kindE0 xk == 1) = false) (k2 : (kindE0 xk == 2) = true) (hp : pane ∈ panesL L) (hw : (xw == 2) = true ∨ ((xw == 2) = false ∧ (xw == 3) = true)) (y : Lay) (hq : replL (resizeE2 xw xn) pane L = (y, true)) (vk vw : Value) (w : World) (hS : ∀ b, w.heap.size ≤ b → S b) (h : LayAt S w L vk vw) : Calls Try.prog 25 #[.agg #[.int .i64 L.kind, .int .i64 L.pane, vk, vw], .agg #[.int .i64 xk, .int .i64 xa, .int .i64 xp, .int .i64 xw, .int .i64 xn], .int .i64 pane] w (fun e w' => EdResI S w w' (y, 0) e) := by
  have g3 : ((IntKind.u64.wrap xk).tmod 5 == 3) = false := k3
  have g0 : ((IntKind.u64.wrap xk).tmod 5 == 0) = false := k0
  have g1 : ((IntKind.u64.wrap xk).tmod 5 == 1) = false := k1
  have g2 : ((IntKind.u64.wrap xk).tmod 5 == 2) = true := k2
  have q0 : decide (pane ∈ panesL L) = true := decide_eq_true hp
  obtain ⟨hok, hn, hnd⟩ := right_ok hr
  have HR := Lib.hid fun W (g : Grows w W) => right_any L _ _ W (h.grows g)
  rw [hr] at HR
  have HP := Lib.hid fun W (g : Grows w W) => rpanes_any L (by omega) _ _ W (h.grows g)
  obtain ⟨ka, kc, e1, -⟩ := h.kids.shape rfl
  obtain ⟨wa, wc, e2, -⟩ := h.ints.shape rfl
  subst e1 e2
  obtain ⟨pn, hpn⟩ : ∃ z, (panesL L).length = z := ⟨_, rfl⟩
  have HPN := Lib.hid hpn
  have hX := h.exc (m := w.heap.size + 1 + 1) (by omega)
  have HE := Lib.hid fun W (g : Grows w W) (hz : w.heap.size + 3 ≤ W.heap.size) => rresize_any pane xw xn L hok (by omega) (Exc (w.heap.size + 1 + 1) S) _ _ W (exc_fresh (m := w.heap.size + 1 + 1) hS (by omega) (by omega)) (hX.grows g)
  rw [hq] at HE
  clear h hS hr hok hn hnd hpn hX hq hp
  generalize L.kids.length = kn at *
  generalize L.ws.length = wn at *
  rcases hw with v2 | ⟨v2, v3⟩
  all_goals
    go_enter Try.func25, Try.ntmps25
    go_upto_region 1 with fail
    refine abs_worldM (fun W' => Grows w W' ∧ Blk W' w.heap.size 25 #[.int .i64 L.kind, .int .i64 L.pane, .slice ka kn kc, .slice wa wn wc] ∧ Blk W' (w.heap.size + 1) 54 #[.int .i64 xk, .int .i64 xa, .int .i64 xp, .int .i64 xw, .int .i64 xn] ∧ Blk W' (w.heap.size + 1 + 1) 25 #[.int .i64 0, .int .i64 0, .slice none 0 0, .slice none 0 0]) (boxes3 _ _ _ _) ?_
    rintro W1 ⟨hg1, hb0, hb1, hb3⟩
    have HB0 := Lib.hid hb0
    have HB1 := Lib.hid hb1
    have HB3 := Lib.hid hb3
    have HG1 := Lib.hid hg1
    have hs1 : w.heap.size + 3 ≤ W1.heap.size := by have := hb3.lt; omega
    clear hb0 hb1 hb3 hg1
    have HF := Lib.hid fun W (g : Grows W1 W) => facts25 (HB0.out.grows g) (HB1.out.grows g) (HB3.out.grows g)
    obtain ⟨⟨a0, a1, a2, a3⟩, ⟨b0, b1, b2, b3, b4⟩, ⟨c0, c1, c2, c3⟩, ⟨d0, d1, d2, d3⟩, hl0, hl1, hl3⟩ := HF.out _ (Grows.refl W1)
    go_upto_region 23 with (first | (go_at_call 11; (go_must (with_reducible refine (HR.out _ HG1.out).mono ?_)); rintro e w1 ⟨rfl, hgW⟩; obtain ⟨⟨a0, a1, a2, a3⟩, ⟨b0, b1, b2, b3, b4⟩, ⟨c0, c1, c2, c3⟩, ⟨d0, d1, d2, d3⟩, hl0, hl1, hl3⟩ := HF.out _ hgW) | (go_at_call 22; (go_must (with_reducible refine (HP.out _ (HG1.out.trans hgW)).mono ?_)); rintro e w2 ⟨v2, rfl, hv2, hg2⟩; replace hgW := hgW.trans hg2; obtain ⟨va, vc, rfl, -, -⟩ := hv2.shape HPN.out; obtain ⟨⟨a0, a1, a2, a3⟩, ⟨b0, b1, b2, b3, b4⟩, ⟨c0, c1, c2, c3⟩, ⟨d0, d1, d2, d3⟩, hl0, hl1, hl3⟩ := HF.out _ hgW) | (go_at_call 42; (go_must (with_reducible refine (has_any _ _ _ _ hv2).mono ?_)); rintro e w3 ⟨rfl, rfl⟩) | (go_at_call 52; (go_must (with_reducible refine (HE.out _ (HG1.out.trans hgW) (Nat.le_trans hs1 hgW.size)).mono ?_)); rintro e w7 hE; obtain ⟨vk7, vw7, rfl, hl7, hg7⟩ := hE.open_; obtain ⟨ka7, kc7, rfl, -⟩ := hl7.kids.shape rfl; obtain ⟨wa7, wc7, rfl, -⟩ := hl7.ints.shape rfl; replace hgW := hgW.trans hg7; obtain ⟨⟨a0, a1, a2, a3⟩, ⟨b0, b1, b2, b3, b4⟩, ⟨c0, c1, c2, c3⟩, ⟨d0, d1, d2, d3⟩, hl0, hl1, hl3⟩ := HF.out _ hgW))
    all_goals
      have HL7 := Lib.hid hl7
      have hgW5 := hgW
      refine abs_worldM (fun W' => Grows w7 W' ∧ Blk W' w7.heap.size 25 #[.int .i64 y.kind, .int .i64 y.pane, .slice ka7 y.kids.length kc7, .slice wa7 y.ws.length wc7]) ⟨(by repeat' (first | (with_reducible exact Grows.refl _) | (with_reducible refine Grows.alloc ?_ _) | (with_reducible refine Grows.drew ?_) | (with_reducible refine Grows.ext ?_ _ _))), Blk.new (by simp)⟩ ?_
      rintro W6 ⟨hg6, hb6⟩
      replace hgW : Grows W1 W6 := hgW5.trans hg6
      obtain ⟨m0, m1, m2, m3⟩ := hb6.four
      have hlm := hb6.lt
      obtain ⟨⟨a0, a1, a2, a3⟩, ⟨b0, b1, b2, b3, b4⟩, ⟨c0, c1, c2, c3⟩, ⟨d0, d1, d2, d3⟩, hl0, hl1, hl3⟩ := HF.out _ hgW
      clear hl7
      generalize y.kids.length = yk at *
      generalize y.ws.length = yw at *
      go_wp2_with fail
    all_goals
      refine ret_cell_tmp (t := 25) (n := w.heap.size + 1 + 1) (cs := #[.int .i64 y.kind, .int .i64 y.pane, .slice ka7 yk kc7, .slice wa7 yw wc7]) rfl rfl rfl ?_ Try.underlying25 rfl (by kernel_rfl) rfl ?_
      · exact (HB3.out.grows hgW).set4
      · exact ⟨_, _, rfl, ((HL7.out.grows hg6).same (exc_set4 _ _ _ _)).unexc, (HG1.out.trans hgW).set4 (by omega) _ _ _ _⟩
theorem way_cases {xw : Int} (h : xw = 2 ∨ xw = 3) : (xw == 2) = true ∨ ((xw == 2) = false ∧ (xw == 3) = true) := by
  rcases h with rfl | rfl
  · exact .inl rfl
  · exact .inr ⟨rfl, rfl⟩
theorem want_any {S : Nat → Prop} (L : Lay) (x : Edt) (pane : Int) (vk vw : Value) (w : World) (hS : ∀ b, w.heap.size ≤ b → S b) (h : LayAt S w L vk vw) : Calls Try.prog 25 #[.agg #[.int .i64 L.kind, .int .i64 L.pane, vk, vw], edV x, .int .i64 pane] w (fun e w' => EdResI S w w' (applyF L x pane) e) := by
  obtain ⟨xk, xa, xp, xw, xn⟩ := x
  by_cases hr : rightL L = false
  · have e : applyF L ⟨xk, xa, xp, xw, xn⟩ pane = (zeroL, 440) := by
      unfold applyF splitF closeF resizeF evenF swapF
      simp only [if_pos hr, ite_self]
    rw [e]
    exact want_no L xk xa xp xw xn pane hr vk vw w hS h
  have hr' : rightL L = true := by simpa using hr
  obtain ⟨hok, hn, hnd⟩ := right_ok hr'
  have hf : ∀ j : Int, ¬ kindE ⟨xk, xa, xp, xw, xn⟩ = j → (kindE0 xk == j) = false := fun j g => beq_eq_false_iff_ne.2 (show kindE0 xk ≠ j from g)
  have ht : ∀ j : Int, kindE ⟨xk, xa, xp, xw, xn⟩ = j → (kindE0 xk == j) = true := fun j g => beq_iff_eq.2 (show kindE0 xk = j from g)
  unfold applyF
  dsimp only
  by_cases h0 : kindE ⟨xk, xa, xp, xw, xn⟩ = 0
  · have k3 := hf 3 (by omega)
    have k0 := ht 0 h0
    rw [if_pos h0]
    unfold splitF
    rw [if_neg hr]
    by_cases hp : pane ∉ panesL L
    · rw [if_pos hp]
      exact want_nopane L xk xa xp xw xn pane hr' k3 hp vk vw w hS h
    rw [if_neg hp]
    have hp' := Decidable.not_not.1 hp
    by_cases hw : xw = 2 ∨ xw = 3
    · by_cases h1 : xn < 0
      · rw [if_pos (.inr (.inl h1))]
        exact want_split_bad2 L xk xa xp xw xn pane hr' k3 k0 hp' (way_cases hw) h1 vk vw w hS h
      by_cases h2 : 999 < xn
      · rw [if_pos (.inr (.inr (.inl h2)))]
        exact want_split_bad3 L xk xa xp xw xn pane hr' k3 k0 hp' (way_cases hw) h1 h2 vk vw w hS h
      by_cases h3 : xn ∈ panesL L
      · rw [if_pos (.inr (.inr (.inr h3)))]
        exact want_split_bad4 L xk xa xp xw xn pane hr' k3 k0 hp' (way_cases hw) h1 h2 h3 vk vw w hS h
      rw [if_neg (fun g => g.elim (fun g => g hw) fun g => g.elim h1 fun g => g.elim h2 h3)]
      by_cases h4 : (panesL L).length = 16
      · rw [if_pos h4]
        exact want_split_full L xk xa xp xw xn pane hr' k3 k0 hp' (way_cases hw) h1 h2 h3 h4 vk vw w hS h
      · rw [if_neg h4, ← rsplit_split hok hp' hnd]
        exact want_split_ok L xk xa xp xw xn pane hr' k3 k0 hp' (way_cases hw) h1 h2 h3 h4 vk vw w hS h
    · rw [if_pos (.inl hw)]
      exact want_split_bad1 L xk xa xp xw xn pane hr' k3 k0 hp' hw vk vw w hS h
  rw [if_neg h0]
  have k0 := hf 0 h0
  by_cases h1 : kindE ⟨xk, xa, xp, xw, xn⟩ = 1
  · have k3 := hf 3 (by omega)
    have k1 := ht 1 h1
    rw [if_pos h1]
    unfold closeF
    rw [if_neg hr]
    by_cases hp : pane ∉ panesL L
    · rw [if_pos hp]
      exact want_nopane L xk xa xp xw xn pane hr' k3 hp vk vw w hS h
    rw [if_neg hp]
    have hp' := Decidable.not_not.1 hp
    by_cases h4 : (panesL L).length = 1
    · rw [if_pos h4]
      exact want_close_last L xk xa xp xw xn pane hr' k3 k0 k1 hp' h4 vk vw w hS h
    · have hk1 : ¬ L.kind = 1 := fun g => h4 (by rw [leaf_of hok g, leaf_panes]; rfl)
      rw [if_neg h4, ← rdrop_eq L hok hk1 hp' hnd (by omega)]
      exact want_close_ok L xk xa xp xw xn pane hr' k3 k0 k1 hp' h4 vk vw w hS h
  rw [if_neg h1]
  have k1 := hf 1 h1
  by_cases h2 : kindE ⟨xk, xa, xp, xw, xn⟩ = 2
  · have k3 := hf 3 (by omega)
    have k2 := ht 2 h2
    rw [if_pos h2]
    unfold resizeF
    rw [if_neg hr]
    by_cases hp : pane ∉ panesL L
    · rw [if_pos hp]
      exact want_nopane L xk xa xp xw xn pane hr' k3 hp vk vw w hS h
    rw [if_neg hp, ← resize_same xw xn pane L hok]
    have hp' := Decidable.not_not.1 hp
    obtain ⟨y, t, hq⟩ : ∃ y t, replL (resizeE2 xw xn) pane L = (y, t) := ⟨_, _, rfl⟩
    by_cases hw : xw = 2 ∨ xw = 3
    · rw [if_neg (fun g => g hw), hq]
      cases t with
      | true =>
        exact want_resize_ok L xk xa xp xw xn pane hr' k3 k0 k1 k2 hp' (way_cases hw) y hq vk vw w hS h
      | false =>
        exact want_resize_no L xk xa xp xw xn pane hr' k3 k0 k1 k2 hp' (way_cases hw) y hq vk vw w hS h
    · rw [if_pos hw]
      cases t with
      | true => exact want_resize_bad_true L xk xa xp xw xn pane hr' k3 k0 k1 k2 hp' hw y hq vk vw w hS h
      | false => exact want_resize_bad_false L xk xa xp xw xn pane hr' k3 k0 k1 k2 hp' hw y hq vk vw w hS h
  rw [if_neg h2]
  have k2 := hf 2 h2
  by_cases h3 : kindE ⟨xk, xa, xp, xw, xn⟩ = 3
  · have k3 := ht 3 h3
    rw [if_pos h3]
    unfold evenF
    rw [if_neg hr]
    exact want_even L xk xa xp xw xn pane hr' k3 vk vw w hS h
  rw [if_neg h3]
  have k3 := hf 3 h3
  unfold swapF
  rw [if_neg hr]
  by_cases hp : pane ∉ panesL L
  · rw [if_pos (.inl hp)]
    exact want_nopane L xk xa xp xw xn pane hr' k3 hp vk vw w hS h
  have hp' := Decidable.not_not.1 hp
  by_cases h4 : xn ∉ panesL L
  · rw [if_pos (.inr h4)]
    exact want_swap_no L xk xa xp xw xn pane hr' k3 k0 k1 k2 hp' h4 vk vw w hS h
  · rw [if_neg (fun g => g.elim hp h4)]
    exact want_swap_ok L xk xa xp xw xn pane hr' k3 k0 k1 k2 hp' (Decidable.not_not.1 h4) vk vw w hS h
end Go.Proofs.Ytbobpgegkmcapaa

namespace Go.Proofs.Ytbobpgegkmcapaa
open Go.RowKit

def ErrZ (q : Lay × Int) : Prop := q.2 ≠ 0 → q.1 = zeroL
theorem err_ite {c : Prop} [Decidable c] {q r : Lay × Int} (hq : ErrZ q) (hr : ErrZ r) : ErrZ (if c then q else r) := by
  split
  · exact hq
  · exact hr
theorem err_apply (L : Lay) (x : Edt) (p : Int) : ErrZ (applyF L x p) := by
  unfold applyF splitF closeF resizeF evenF swapF
  repeat' (first | apply err_ite | exact fun _ => rfl | exact fun h => absurd rfl h)
theorem reg_apply (L : Lay) (x : Edt) (p : Int) : regL (applyF L x p).1 = true := by
  by_cases hr : rightL L = true
  · by_cases h0 : (applyF L x p).2 = 0
    · exact right_reg (right_apply hr x p h0)
    · rw [err_apply L x p h0]
      rfl
  · have hr' : rightL L = false := by simpa using hr
    have e : applyF L x p = (zeroL, 440) := by
      unfold applyF splitF closeF resizeF evenF swapF
      simp only [if_pos hr', ite_self]
    rw [e]
    rfl
theorem off_set4 {n : Nat} {w : World} (a b c d : Value) : Same (fun k => k ≠ n) w ((((w.setCell ⟨n, 0, none⟩ a).setCell ⟨n, 1, none⟩ b).setCell ⟨n, 2, none⟩ c).setCell ⟨n, 3, none⟩ d) := (((same_set fun h => h rfl).trans (same_set fun h => h rfl)).trans (same_set fun h => h rfl)).trans (same_set fun h => h rfl)
set_option maxRecDepth 100000 in
set_option maxHeartbeats 8000000 in
theorem edits_true (L : Lay) (xs : List Edt) (vk vw : Value) (a : Option Addr) (n c : Nat) (w : World) (hL : LayAt AnyB w L vk vw) (hn : xs.length = n) (hnc : n ≤ c) (hnm : n ≤ 9223372036854775807) (h : CellsAt 5 w (.slice a n c) n (edC xs)) : Calls Try.prog 5 #[.agg #[.int .i64 L.kind, .int .i64 L.pane, vk, vw], .slice a n c] w (Ret (.bool true) w) := by
  obtain ⟨ka, kc, rfl, -⟩ := hL.kids.shape rfl
  obtain ⟨wa, wc, rfl, -⟩ := hL.ints.shape rfl
  have HL0 := Lib.hid (show LayAt (fun b => b ≠ w.heap.size) w L (.slice ka L.kids.length kc) (.slice wa L.ws.length wc) from hL.mono fun b hb _ => by omega)
  have HC := Lib.hid h
  have HN := Lib.hid hn
  clear h hn hL
  go_enter Try.func5, Try.ntmps5
  go_upto_region 1 with fail
  refine abs_worldM (fun W => Grows w W ∧ Blk W w.heap.size 25 #[.int .i64 L.kind, .int .i64 L.pane, .slice ka L.kids.length kc, .slice wa L.ws.length wc]) ⟨(by repeat' (first | (with_reducible exact Grows.refl _) | (with_reducible refine Grows.alloc ?_ _) | (with_reducible refine Grows.drew ?_) | (with_reducible refine Grows.ext ?_ _ _))), Blk.new (by simp)⟩ ?_
  rintro W0 ⟨hg0, hb0⟩
  have HG0 := Lib.hid hg0
  have HB0 := Lib.hid hb0
  clear hg0 hb0
  go_upto_region 3 with (go_at_call 9; (go_must (with_reducible refine (wakes_any _).mono ?_)); rintro e w1 ⟨rfl, hg1⟩)
  refine abs_worldM (fun W => Grows W0 W) (Grows.trans (by repeat' (first | (with_reducible exact Grows.refl _) | (with_reducible refine Grows.alloc ?_ _) | (with_reducible refine Grows.drew ?_) | (with_reducible refine Grows.ext ?_ _ _))) hg1) ?_
  clear hg1
  rintro W1 hg1
  have HG1 := Lib.hid hg1
  clear hg1
  go_wp2_with fail
  go_loopw [16] (fun i wr => ∃ (m : Nat) (wv : World) (L : Lay) (ka : Option Addr) (kc : Nat) (wa : Option Addr) (wc : Nat), wv = wr ∧ m ≤ n ∧ m ≤ 20 ∧ i = .int .i64 m ∧ Blk wv w.heap.size 25 #[.int .i64 L.kind, .int .i64 L.pane, .slice ka L.kids.length kc, .slice wa L.ws.length wc] ∧ LayAt (fun b => b ≠ w.heap.size) wv L (.slice ka L.kids.length kc) (.slice wa L.ws.length wc) ∧ Grows w wv) (fun i _ => n - (intOf i).toNat)
  case atStart => exact ⟨0, _, L, _, _, _, _, rfl, Nat.zero_le _, Nat.zero_le _, rfl, HB0.out.grows HG1.out, HL0.out.grows (HG0.out.trans HG1.out), HG0.out.trans HG1.out⟩
  case round =>
    clear HL0 HB0 HG0 HG1 W1 W0
    obtain ⟨m, wv, L, ka, kc, wa, wc, rfl, hm, hm2, rfl, hb2, hl, hg⟩ := hrel
    have hsz := hg.size
    have HB2 := Lib.hid hb2
    have HLL := Lib.hid hl
    have HG := Lib.hid hg
    have hl2 := hb2.lt
    by_cases hlt : m < n
    · obtain ⟨eb, eoff, ⟨xk, xa, xp, xw, xn⟩, rfl, heb, -, e0, e1, e2, e3, e4⟩ := edit_at (HC.out.grows hg) HN.out (i := m) (by omega)
      dsimp only at e0 e1 e2 e3 e4
      clear hg hb2 hl
      by_cases h20 : m = 20
      · subst h20
        go_wp2_with fail
        go_returns
        exact ⟨rfl, HG.out.trans (by repeat' (first | (with_reducible exact Grows.refl _) | (with_reducible refine Grows.alloc ?_ _) | (with_reducible refine Grows.drew ?_) | (with_reducible refine Grows.ext ?_ _ _)))⟩
      have h20b : ((m : Int) == 20) = false := by simp; omega
      have hm3 : m + 1 ≤ 20 := by omega
      clear h20
      go_upto_region 6 with fail
      refine abs_worldM (fun W => Grows wv W ∧ Blk W wv.heap.size 54 #[.int .i64 xk, .int .i64 xa, .int .i64 xp, .int .i64 xw, .int .i64 xn]) ⟨(by repeat' (first | (with_reducible exact Grows.refl _) | (with_reducible refine Grows.alloc ?_ _) | (with_reducible refine Grows.drew ?_) | (with_reducible refine Grows.ext ?_ _ _))), Blk.new (by simp)⟩ ?_
      obtain ⟨p6, hp6⟩ : ∃ z, wv.heap.size = z := ⟨_, rfl⟩
      rw [hp6]
      rintro W1 ⟨hg1, hb6⟩
      have HG1 := Lib.hid hg1
      have HB6 := Lib.hid hb6
      obtain ⟨a0, a1, a2, a3⟩ := (HB2.out.grows hg1).four
      replace hl2 := (HB2.out.grows hg1).lt
      obtain ⟨b0, b1, b2, b3, b4⟩ := hb6.five
      have hl6 := hb6.lt
      clear hg1 hb6 e0 e1 e2 e3 e4 heb hsz
      have HR := Lib.hid fun W (g : Grows W1 W) => right_any L _ _ W (HLL.out.grows (HG1.out.trans g))
      by_cases hr : rightL L = true
      · rw [hr] at HR
        obtain ⟨hok, hn16, -⟩ := right_ok hr
        have HPN := Lib.hid fun W (g : Grows W1 W) => epane_any L xk xa xp xw xn hok (by omega) _ _ W (HLL.out.grows (HG1.out.trans g))
        obtain ⟨p, hp⟩ : ∃ z, paneE L ⟨xk, xa, xp, xw, xn⟩ = z := ⟨_, rfl⟩
        rw [hp] at HPN
        clear hok hn16 hp hr
        go_upto_region 9 with (go_at_call 11; (go_must (with_reducible refine (HR.out _ (by repeat' (first | (with_reducible exact Grows.refl _) | (with_reducible refine Grows.alloc ?_ _) | (with_reducible refine Grows.drew ?_) | (with_reducible refine Grows.ext ?_ _ _)))).mono ?_)); rintro e w2 ⟨rfl, hg2⟩; obtain ⟨a0, a1, a2, a3⟩ := (HB2.out.grows (HG1.out.trans hg2)).four; have hl2 := (HB2.out.grows (HG1.out.trans hg2)).lt; obtain ⟨b0, b1, b2, b3, b4⟩ := (HB6.out.grows hg2).five; have hl6 := (HB6.out.grows hg2).lt)
        go_upto_region 10 with (go_at_call 23; (go_must (with_reducible refine (HPN.out _ (hg2.trans (by repeat' (first | (with_reducible exact Grows.refl _) | (with_reducible refine Grows.alloc ?_ _) | (with_reducible refine Grows.drew ?_) | (with_reducible refine Grows.ext ?_ _ _))))).mono ?_)); rintro e w3 ⟨rfl, hg3⟩)
        refine abs_worldM (fun W => Grows W1 W) (hg2.trans (Grows.trans (by repeat' (first | (with_reducible exact Grows.refl _) | (with_reducible refine Grows.alloc ?_ _) | (with_reducible refine Grows.drew ?_) | (with_reducible refine Grows.ext ?_ _ _))) hg3)) ?_
        clear hg2 hg3 a0 a1 a2 a3 hl2 b0 b1 b2 b3 b4 hl6
        rintro W2 hg2
        have HG2 := Lib.hid (HG1.out.trans hg2)
        obtain ⟨a0, a1, a2, a3⟩ := (HB2.out.grows HG2.out).four
        have hl2 := (HB2.out.grows HG2.out).lt
        obtain ⟨b0, b1, b2, b3, b4⟩ := (HB6.out.grows hg2).five
        have hl6 := (HB6.out.grows hg2).lt
        have HB6x := Lib.hid (HB6.out.grows hg2)
        obtain ⟨y, ne, hap⟩ : ∃ y ne, applyF L ⟨xk, xa, xp, xw, xn⟩ p = (y, ne) := ⟨_, _, rfl⟩
        have HQ := Lib.hid hap
        have HRY := Lib.hid (show regL y = true by have := reg_apply L ⟨xk, xa, xp, xw, xn⟩ p; rwa [hap] at this)
        have HLW := Lib.hid (HLL.out.grows HG2.out)
        have HA := Lib.hid fun W (g : Grows W2 W) => apply_any (S := fun b => b ≠ w.heap.size) L ⟨xk, xa, xp, xw, xn⟩ p _ _ W (fun b hb => by have := g.size; omega) (HLW.out.grows g)
        have HW := Lib.hid fun W (g : Grows W2 W) => want_any (S := fun b => b ≠ w.heap.size) L ⟨xk, xa, xp, xw, xn⟩ p _ _ W (fun b hb => by have := g.size; omega) (HLW.out.grows g)
        clear hap hg2 HR HB6
        go_upto_region 11 with (go_at_call 24; (go_must (with_reducible refine (HA.out _ (by repeat' (first | (with_reducible exact Grows.refl _) | (with_reducible refine Grows.alloc ?_ _) | (with_reducible refine Grows.drew ?_) | (with_reducible refine Grows.ext ?_ _ _)))).mono ?_)); rintro e w3 hE; obtain ⟨k3, c3, m3, d3, rfl, hly, hg3⟩ := hE.pair HQ.out)
        refine abs_worldM (fun W => Grows W2 W ∧ Blk W w3.heap.size 25 #[.int .i64 y.kind, .int .i64 y.pane, .slice k3 y.kids.length c3, .slice m3 y.ws.length d3] ∧ LayAt (fun b => b ≠ w.heap.size) W y (.slice k3 y.kids.length c3) (.slice m3 y.ws.length d3)) ⟨Grows.trans (Grows.trans (by repeat' (first | (with_reducible exact Grows.refl _) | (with_reducible refine Grows.alloc ?_ _) | (with_reducible refine Grows.drew ?_) | (with_reducible refine Grows.ext ?_ _ _))) hg3) (by repeat' (first | (with_reducible exact Grows.refl _) | (with_reducible refine Grows.alloc ?_ _) | (with_reducible refine Grows.drew ?_) | (with_reducible refine Grows.ext ?_ _ _))), Blk.new (by simp), hly.grows (by repeat' (first | (with_reducible exact Grows.refl _) | (with_reducible refine Grows.alloc ?_ _) | (with_reducible refine Grows.drew ?_) | (with_reducible refine Grows.ext ?_ _ _)))⟩ ?_
        clear hg3 hly hE a0 a1 a2 a3 hl2 b0 b1 b2 b3 b4 hl6
        generalize w3.heap.size = p8 at *
        rintro W3 ⟨hg3, hb8, hly⟩
        have HG3 := Lib.hid hg3
        have HB8 := Lib.hid hb8
        have HY3 := Lib.hid hly
        obtain ⟨a0, a1, a2, a3⟩ := (HB2.out.grows (HG2.out.trans hg3)).four
        have hl2 := (HB2.out.grows (HG2.out.trans hg3)).lt
        obtain ⟨b0, b1, b2, b3, b4⟩ := (HB6x.out.grows hg3).five
        have hl6 := (HB6x.out.grows hg3).lt
        clear hg3 hb8 hly
        go_upto_region 12 with (go_at_call 25; (go_must (with_reducible refine (HW.out _ (HG3.out.trans (by repeat' (first | (with_reducible exact Grows.refl _) | (with_reducible refine Grows.alloc ?_ _) | (with_reducible refine Grows.drew ?_) | (with_reducible refine Grows.ext ?_ _ _))))).mono ?_)); rintro e w4 hE; obtain ⟨k4, c4, m4, d4, rfl, hly, hg4⟩ := hE.pair HQ.out)
        refine abs_worldM (fun W => Grows W3 W ∧ Blk W w4.heap.size 25 #[.int .i64 y.kind, .int .i64 y.pane, .slice k4 y.kids.length c4, .slice m4 y.ws.length d4] ∧ LayAt (fun b => b ≠ w.heap.size) W y (.slice k4 y.kids.length c4) (.slice m4 y.ws.length d4)) ⟨Grows.trans (Grows.trans (by repeat' (first | (with_reducible exact Grows.refl _) | (with_reducible refine Grows.alloc ?_ _) | (with_reducible refine Grows.drew ?_) | (with_reducible refine Grows.ext ?_ _ _))) hg4) (by repeat' (first | (with_reducible exact Grows.refl _) | (with_reducible refine Grows.alloc ?_ _) | (with_reducible refine Grows.drew ?_) | (with_reducible refine Grows.ext ?_ _ _))), Blk.new (by simp), hly.grows (by repeat' (first | (with_reducible exact Grows.refl _) | (with_reducible refine Grows.alloc ?_ _) | (with_reducible refine Grows.drew ?_) | (with_reducible refine Grows.ext ?_ _ _)))⟩ ?_
        clear hg4 hly hE a0 a1 a2 a3 hl2 b0 b1 b2 b3 b4 hl6
        generalize w4.heap.size = p10 at *
        rintro W4 ⟨hg4, hb10, hly⟩
        have HG4 := Lib.hid (HG2.out.trans (HG3.out.trans hg4))
        have HB10 := Lib.hid hb10
        have HY4 := Lib.hid hly
        obtain ⟨m0, m1, m2, m3'⟩ := (HB8.out.grows hg4).four
        have hl8 := (HB8.out.grows hg4).lt
        obtain ⟨n0, n1, n2, n3⟩ := hb10.four
        have hl10 := hb10.lt
        have HSM := Lib.hid fun W (g : Grows W4 W) => sameR_any y y _ _ _ _ W HRY.out HRY.out ((HY3.out.grows hg4).grows g) (HY4.out.grows g)
        have hnn : (ne != ne) = false := by simp
        clear hg4 hb10 hly HA HW
        go_upto_region 14 with (go_at_call 17; (go_must (with_reducible refine (HSM.out _ (by repeat' (first | (with_reducible exact Grows.refl _) | (with_reducible refine Grows.alloc ?_ _) | (with_reducible refine Grows.drew ?_) | (with_reducible refine Grows.ext ?_ _ _)))).mono ?_)); rintro e w5 ⟨r, hrr, rfl, hg5⟩; obtain rfl : r = true := hrr.2 rfl; clear hrr)
        have HG5 := Lib.hid (HG4.out.trans hg5)
        have HY5 := Lib.hid (HY4.out.grows hg5)
        obtain ⟨a0, a1, a2, a3⟩ := (HB2.out.grows HG5.out).four
        obtain ⟨f0, f1, f2, f3⟩ := (HB2.out.grows HG5.out).four'
        have hl2 := (HB2.out.grows HG5.out).lt
        obtain ⟨n0, n1, n2, n3⟩ := (HB10.out.grows hg5).four
        have hl10 := (HB10.out.grows hg5).lt
        clear hg5
        by_cases hne : ne = 0
        · subst hne
          go_wp2_with fail
          go_roundw
          case rel => exact ⟨m + 1, _, y, _, _, _, _, rfl, by omega, hm3, by go_num, (HB2.out.grows HG5.out).set4, HY5.out.same (off_set4 _ _ _ _), (HG.out.trans HG5.out).set4 (Nat.le_refl _) _ _ _ _⟩
          case measure => simp [intOf]; omega
        · have hne2 : (ne == 0) = false := by simpa using hne
          clear hne
          go_wp2_with fail
          go_roundw
          case rel => exact ⟨m + 1, _, L, _, _, _, _, rfl, by omega, hm3, by go_num, HB2.out.grows HG5.out, HLL.out.grows HG5.out, HG.out.trans HG5.out⟩
          case measure => simp [intOf]; omega
      · have hr' : rightL L = false := by simpa using hr
        rw [hr'] at HR
        clear hr hr'
        go_upto_region 10 with (go_at_call 11; (go_must (with_reducible refine (HR.out _ (by repeat' (first | (with_reducible exact Grows.refl _) | (with_reducible refine Grows.alloc ?_ _) | (with_reducible refine Grows.drew ?_) | (with_reducible refine Grows.ext ?_ _ _)))).mono ?_)); rintro e w2 ⟨rfl, hg2⟩)
        refine abs_worldM (fun W => Grows W1 W) hg2 ?_
        clear hg2 a0 a1 a2 a3 hl2 b0 b1 b2 b3 b4 hl6
        rintro W2 hg2
        have HG2 := Lib.hid (HG1.out.trans hg2)
        obtain ⟨a0, a1, a2, a3⟩ := (HB2.out.grows HG2.out).four
        have hl2 := (HB2.out.grows HG2.out).lt
        obtain ⟨b0, b1, b2, b3, b4⟩ := (HB6.out.grows hg2).five
        have hl6 := (HB6.out.grows hg2).lt
        have HB6x := Lib.hid (HB6.out.grows hg2)
        obtain ⟨y, ne, hap⟩ : ∃ y ne, applyF L ⟨xk, xa, xp, xw, xn⟩ xp = (y, ne) := ⟨_, _, rfl⟩
        have HQ := Lib.hid hap
        have HRY := Lib.hid (show regL y = true by have := reg_apply L ⟨xk, xa, xp, xw, xn⟩ xp; rwa [hap] at this)
        have HLW := Lib.hid (HLL.out.grows HG2.out)
        have HA := Lib.hid fun W (g : Grows W2 W) => apply_any (S := fun b => b ≠ w.heap.size) L ⟨xk, xa, xp, xw, xn⟩ xp _ _ W (fun b hb => by have := g.size; omega) (HLW.out.grows g)
        have HW := Lib.hid fun W (g : Grows W2 W) => want_any (S := fun b => b ≠ w.heap.size) L ⟨xk, xa, xp, xw, xn⟩ xp _ _ W (fun b hb => by have := g.size; omega) (HLW.out.grows g)
        clear hap hg2 HR HB6
        go_upto_region 11 with (go_at_call 24; (go_must (with_reducible refine (HA.out _ (by repeat' (first | (with_reducible exact Grows.refl _) | (with_reducible refine Grows.alloc ?_ _) | (with_reducible refine Grows.drew ?_) | (with_reducible refine Grows.ext ?_ _ _)))).mono ?_)); rintro e w3 hE; obtain ⟨k3, c3, m3, d3, rfl, hly, hg3⟩ := hE.pair HQ.out)
        refine abs_worldM (fun W => Grows W2 W ∧ Blk W w3.heap.size 25 #[.int .i64 y.kind, .int .i64 y.pane, .slice k3 y.kids.length c3, .slice m3 y.ws.length d3] ∧ LayAt (fun b => b ≠ w.heap.size) W y (.slice k3 y.kids.length c3) (.slice m3 y.ws.length d3)) ⟨Grows.trans (Grows.trans (by repeat' (first | (with_reducible exact Grows.refl _) | (with_reducible refine Grows.alloc ?_ _) | (with_reducible refine Grows.drew ?_) | (with_reducible refine Grows.ext ?_ _ _))) hg3) (by repeat' (first | (with_reducible exact Grows.refl _) | (with_reducible refine Grows.alloc ?_ _) | (with_reducible refine Grows.drew ?_) | (with_reducible refine Grows.ext ?_ _ _))), Blk.new (by simp), hly.grows (by repeat' (first | (with_reducible exact Grows.refl _) | (with_reducible refine Grows.alloc ?_ _) | (with_reducible refine Grows.drew ?_) | (with_reducible refine Grows.ext ?_ _ _)))⟩ ?_
        clear hg3 hly hE a0 a1 a2 a3 hl2 b0 b1 b2 b3 b4 hl6
        generalize w3.heap.size = p8 at *
        rintro W3 ⟨hg3, hb8, hly⟩
        have HG3 := Lib.hid hg3
        have HB8 := Lib.hid hb8
        have HY3 := Lib.hid hly
        obtain ⟨a0, a1, a2, a3⟩ := (HB2.out.grows (HG2.out.trans hg3)).four
        have hl2 := (HB2.out.grows (HG2.out.trans hg3)).lt
        obtain ⟨b0, b1, b2, b3, b4⟩ := (HB6x.out.grows hg3).five
        have hl6 := (HB6x.out.grows hg3).lt
        clear hg3 hb8 hly
        go_upto_region 12 with (go_at_call 25; (go_must (with_reducible refine (HW.out _ (HG3.out.trans (by repeat' (first | (with_reducible exact Grows.refl _) | (with_reducible refine Grows.alloc ?_ _) | (with_reducible refine Grows.drew ?_) | (with_reducible refine Grows.ext ?_ _ _))))).mono ?_)); rintro e w4 hE; obtain ⟨k4, c4, m4, d4, rfl, hly, hg4⟩ := hE.pair HQ.out)
        refine abs_worldM (fun W => Grows W3 W ∧ Blk W w4.heap.size 25 #[.int .i64 y.kind, .int .i64 y.pane, .slice k4 y.kids.length c4, .slice m4 y.ws.length d4] ∧ LayAt (fun b => b ≠ w.heap.size) W y (.slice k4 y.kids.length c4) (.slice m4 y.ws.length d4)) ⟨Grows.trans (Grows.trans (by repeat' (first | (with_reducible exact Grows.refl _) | (with_reducible refine Grows.alloc ?_ _) | (with_reducible refine Grows.drew ?_) | (with_reducible refine Grows.ext ?_ _ _))) hg4) (by repeat' (first | (with_reducible exact Grows.refl _) | (with_reducible refine Grows.alloc ?_ _) | (with_reducible refine Grows.drew ?_) | (with_reducible refine Grows.ext ?_ _ _))), Blk.new (by simp), hly.grows (by repeat' (first | (with_reducible exact Grows.refl _) | (with_reducible refine Grows.alloc ?_ _) | (with_reducible refine Grows.drew ?_) | (with_reducible refine Grows.ext ?_ _ _)))⟩ ?_
        clear hg4 hly hE a0 a1 a2 a3 hl2 b0 b1 b2 b3 b4 hl6
        generalize w4.heap.size = p10 at *
        rintro W4 ⟨hg4, hb10, hly⟩
        have HG4 := Lib.hid (HG2.out.trans (HG3.out.trans hg4))
        have HB10 := Lib.hid hb10
        have HY4 := Lib.hid hly
        obtain ⟨m0, m1, m2, m3'⟩ := (HB8.out.grows hg4).four
        have hl8 := (HB8.out.grows hg4).lt
        obtain ⟨n0, n1, n2, n3⟩ := hb10.four
        have hl10 := hb10.lt
        have HSM := Lib.hid fun W (g : Grows W4 W) => sameR_any y y _ _ _ _ W HRY.out HRY.out ((HY3.out.grows hg4).grows g) (HY4.out.grows g)
        have hnn : (ne != ne) = false := by simp
        clear hg4 hb10 hly HA HW
        go_upto_region 14 with (go_at_call 17; (go_must (with_reducible refine (HSM.out _ (by repeat' (first | (with_reducible exact Grows.refl _) | (with_reducible refine Grows.alloc ?_ _) | (with_reducible refine Grows.drew ?_) | (with_reducible refine Grows.ext ?_ _ _)))).mono ?_)); rintro e w5 ⟨r, hrr, rfl, hg5⟩; obtain rfl : r = true := hrr.2 rfl; clear hrr)
        have HG5 := Lib.hid (HG4.out.trans hg5)
        have HY5 := Lib.hid (HY4.out.grows hg5)
        obtain ⟨a0, a1, a2, a3⟩ := (HB2.out.grows HG5.out).four
        obtain ⟨f0, f1, f2, f3⟩ := (HB2.out.grows HG5.out).four'
        have hl2 := (HB2.out.grows HG5.out).lt
        obtain ⟨n0, n1, n2, n3⟩ := (HB10.out.grows hg5).four
        have hl10 := (HB10.out.grows hg5).lt
        clear hg5
        by_cases hne : ne = 0
        · subst hne
          go_wp2_with fail
          go_roundw
          case rel => exact ⟨m + 1, _, y, _, _, _, _, rfl, by omega, hm3, by go_num, (HB2.out.grows HG5.out).set4, HY5.out.same (off_set4 _ _ _ _), (HG.out.trans HG5.out).set4 (Nat.le_refl _) _ _ _ _⟩
          case measure => simp [intOf]; omega
        · have hne2 : (ne == 0) = false := by simpa using hne
          clear hne
          go_wp2_with fail
          go_roundw
          case rel => exact ⟨m + 1, _, L, _, _, _, _, rfl, by omega, hm3, by go_num, HB2.out.grows HG5.out, HLL.out.grows HG5.out, HG.out.trans HG5.out⟩
          case measure => simp [intOf]; omega
    · have e : m = n := by omega
      subst e
      clear hg hb2 hl
      go_wp2_with fail
      go_returns
      exact ⟨rfl, HG.out.trans (by repeat' (first | (with_reducible exact Grows.refl _) | (with_reducible refine Grows.alloc ?_ _) | (with_reducible refine Grows.drew ?_) | (with_reducible refine Grows.ext ?_ _ _)))⟩
end Go.Proofs.Ytbobpgegkmcapaa

