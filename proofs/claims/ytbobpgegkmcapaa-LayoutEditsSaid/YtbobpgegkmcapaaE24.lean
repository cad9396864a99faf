/-
  Walks: the edit's pane. Walks: the reference's Resize. Walks: want of the laws, its errors.
-/
import Derived.Test.YtbobpgegkmcapaaRows
import Derived.Test.YtbobpgegkmcapaaE1
import Derived.Test.YtbobpgegkmcapaaE2
import Derived.Test.YtbobpgegkmcapaaE5
import Derived.Test.YtbobpgegkmcapaaE8
import Derived.Test.YtbobpgegkmcapaaE9
import Derived.Test.YtbobpgegkmcapaaE17
import Derived.WalkKit
import Derived.WalkSpells
import Derived.WalkLawsBesides
import Derived.Handy
import Derived.Laws.Rows
import Derived.Great.BuildSlice
import Derived.Deep.Heap
import Derived.IntWalk
import Derived.Lib.Hide
import Derived.Outline
import Derived.Deep.Light
import Derived.Deep.LoopGhost
import Derived.BigGuardPart
import Derived.BigQuiet
import Derived.Deep.QuietTactic
import Derived.Deep.RegionHeld3
import Derived.Deep.DeepCutAuto
import Derived.Deep.CutBlock
import Derived.OwnWalk
import Derived.Test.YtbobpgegkmcapaaE22
import Derived.Test.YtbobpgegkmcapaaE3
import Derived.Test.YtbobpgegkmcapaaE10
import Derived.Test.YtbobpgegkmcapaaE13
import Derived.Maps.AppendAt
import Derived.OneCell
import Derived.Test.YtbobpgegkmcapaaE14
namespace Go.Proofs.Ytbobpgegkmcapaa
open Go.RowKit

set_option maxRecDepth 100000 in
set_option maxHeartbeats 4000000 in
theorem epane_any {S : Nat → Prop} (L : Lay) (xk xa xp xw xn : Int) (hok : okTree L = true) (hn : (panesL L).length ≤ 1000) (vk vw : Value) (w : World) (h : LayAt S w L vk vw) : Calls Try.prog 23 #[.agg #[.int .i64 xk, .int .i64 xa, .int .i64 xp, .int .i64 xw, .int .i64 xn], .agg #[.int .i64 L.kind, .int .i64 L.pane, vk, vw]] w (fun e w' => e = .returned (.int .i64 (paneE L ⟨xk, xa, xp, xw, xn⟩)) ∧ Grows w w') := by
  have hpos := panes_pos L hok
  have HP := Lib.hid fun W (g : Grows w W) => rpanes_any L hn _ _ W (h.grows g)
  obtain ⟨ka, kc, rfl, -⟩ := h.kids.shape rfl
  obtain ⟨wa, wc, rfl, -⟩ := h.ints.shape rfl
  obtain ⟨pn, hpn⟩ : ∃ z, (panesL L).length = z := ⟨_, rfl⟩
  have HPN := Lib.hid hpn
  rw [hpn] at hpos hn
  have hmul : ((pn : Int) == 0) = false := by simp; omega
  clear hok h hpn
  go_enter Try.func23, Try.ntmps23
  go_upto_region 1 with fail
  refine abs_worldM (fun W => Grows w W ∧ Blk W w.heap.size 54 #[.int .i64 xk, .int .i64 xa, .int .i64 xp, .int .i64 xw, .int .i64 xn] ∧ Blk W (w.heap.size + 1) 25 #[.int .i64 L.kind, .int .i64 L.pane, .slice ka L.kids.length kc, .slice wa L.ws.length wc]) (boxes2 _ _ _) ?_
  rintro W0 ⟨hg0, hb0, hb1⟩
  obtain ⟨b0, b1, b2, b3⟩ := hb1.four
  have hl1 := hb1.lt
  have HB0 := Lib.hid hb0
  have HG0 := Lib.hid hg0
  clear hb0 hb1 hg0
  go_upto_region 2 with (go_at_call 22; (go_must (with_reducible refine (HP.out _ (HG0.out.trans (by repeat' (first | (with_reducible exact Grows.refl _) | (with_reducible refine Grows.alloc ?_ _) | (with_reducible refine Grows.drew ?_) | (with_reducible refine Grows.ext ?_ _ _))))).mono ?_)); rintro e w2 ⟨v2, rfl, hv2, hg2⟩; obtain ⟨va, vc, rfl, -, -⟩ := hv2.shape HPN.out)
  refine abs_worldM (fun W => Grows W0 W ∧ IntsAt (fun _ => True) W (.slice va pn vc) (panesL L)) ⟨Grows.trans (by repeat' (first | (with_reducible exact Grows.refl _) | (with_reducible refine Grows.alloc ?_ _) | (with_reducible refine Grows.drew ?_) | (with_reducible refine Grows.ext ?_ _ _))) hg2, hv2⟩ ?_
  clear b0 b1 b2 b3 hl1
  rintro W2 ⟨hg, hv⟩
  obtain ⟨a0, a1, a2, a3, a4⟩ := (HB0.out.grows hg).five
  have hl0 := (HB0.out.grows hg).lt
  have HG2 := Lib.hid (HG0.out.trans hg)
  by_cases hat : 0 ≤ xa
  · obtain ⟨j, hj1, hj2, hj3⟩ := rem_index hat hpos
    obtain ⟨pb, poff, q, rfl, hpb, -, hq, -, q0⟩ := (hv.open_ HPN.out).elim fun _ h => h.elim fun _ h => (by cases h.1; exact h.2.2.2.at_ (i := j) (by rw [HPN.out]; exact hj2))
    have HPE := Lib.hid (paneE_in (L := L) (x := ⟨xk, xa, xp, xw, xn⟩) hat (by rw [HPN.out]; exact hj3) hq)
    clear hv hg hq
    go_wp2_with fail
    go_returns
    rw [HPE.out]
    exact ⟨rfl, HG2.out.trans (by repeat' (first | (with_reducible exact Grows.refl _) | (with_reducible refine Grows.alloc ?_ _) | (with_reducible refine Grows.drew ?_) | (with_reducible refine Grows.ext ?_ _ _)))⟩
  · have HPE := Lib.hid (paneE_out (L := L) (x := ⟨xk, xa, xp, xw, xn⟩) hat)
    clear hv hg
    go_wp2_with fail
    go_returns
    rw [HPE.out]
    exact ⟨rfl, HG2.out.trans (by repeat' (first | (with_reducible exact Grows.refl _) | (with_reducible refine Grows.alloc ?_ _) | (with_reducible refine Grows.drew ?_) | (with_reducible refine Grows.ext ?_ _ _)))⟩
end Go.Proofs.Ytbobpgegkmcapaa

namespace Go.Proofs.Ytbobpgegkmcapaa
open Go.RowKit

set_option maxRecDepth 100000 in
set_option maxHeartbeats 8000000 in
theorem rresize_any (pane kind delta : Int) (L : Lay) : okTree L = true → (panesL L).length ≤ 1000 → ∀ (S : Nat → Prop) (vk vw : Value) (w : World), (∀ b, w.heap.size ≤ b → S b) → LayAt S w L vk vw → Calls Try.prog 52 #[.agg #[.int .i64 L.kind, .int .i64 L.pane, vk, vw], .int .i64 pane, .int .i64 kind, .int .i64 delta] w (fun e w' => EdRes S w w' (replL (resizeE2 kind delta) pane L) e) := by
  induction L using Lay.ind with | h k p ks ws ih => ?_
  intro hok hn S vk vw w hS h
  obtain ⟨hv, hkok⟩ := okTree_iff.1 hok
  dsimp only [Lay.kids] at hkok
  have hks : ks.length ≤ 1000 ∧ ∀ x ∈ ks, (panesL x).length ≤ 1000 := by
    by_cases hk : k = 1
    · have hz : ks = [] := (validN_leaf hv hk).2.2.1
      rw [hz]
      exact ⟨Nat.zero_le _, fun x hx => by cases hx⟩
    · rw [panesL_mk, if_neg hk] at hn
      have := len_kids (ks := ks) hkok
      exact ⟨by omega, fun x hx => by have := len_mem hx; omega⟩
  obtain ⟨i25, hi25, hz25, hs25, hb25⟩ := info_parts info25
  obtain ⟨i3, hi3, hz3, hs3, hb3⟩ := info_parts info3
  have hwl : ws.length = ks.length := by
    by_cases hk : k = 1
    · obtain ⟨-, -, h3, h4⟩ := validN_leaf hv hk
      have h3 : ks = [] := h3
      have h4 : ws = [] := h4
      rw [h3, h4]
      rfl
    · exact (split_facts hok hk).2.2.2.1
  obtain ⟨a, cap, G, rfl, hcap, hmx, hin⟩ := h.lt.kids.open_ rfl
  obtain ⟨wa, wc, rfl, hwc, hwm, hiw⟩ := h.lt.ints.open_ (show (Lay.mk k p ks ws).ws.length = ks.length from hwl)
  dsimp only [Lay.kids, Lay.ws, Lay.kind, Lay.pane] at hcap hmx hwc hwm hin hiw h ⊢
  have Hin := Lib.hid hin
  have Hiw := Lib.hid hiw
  have HH := Lib.hid h.but
  have HI := Lib.hid fun (x : Lay) (hx : x ∈ ks) => ih x hx (hkok x hx) (hks.2 x hx)
  have HL := Lib.hid hks.2
  have HS := Lib.hid hS
  have HWL := Lib.hid hwl
  have HWR := Lib.hid fun (y : Int) (hy : y ∈ ws) => (show 1 ≤ y ∧ y ≤ 1000 from (by
    by_cases hk : k = 1
    · have h4 : ws = [] := (validN_leaf hv hk).2.2.2
      rw [h4] at hy
      cases hy
    · exact (split_facts hok hk).2.2.2.2.2.1 y hy))
  have hkn := hks.1
  have hwn : ws.length ≤ 1000 := by omega
  clear ih hok hn hS h hv hkok hin hiw hks
  clear hwl
  go_enter Try.func52, Try.ntmps52
  go_upto_region 1 with fail
  refine abs_worldM (fun W => Grows w W ∧ Blk W w.heap.size 25 #[.int .i64 k, .int .i64 p, .slice a ks.length cap, .slice wa ks.length wc] ∧ Blk W (w.heap.size + 1) 25 #[.int .i64 0, .int .i64 0, .slice none 0 0, .slice none 0 0]) (boxes2 _ _ _) ?_
  rintro W0 ⟨hg0, hb0, hb1⟩
  have HB0 := Lib.hid hb0
  have HB1 := Lib.hid hb1
  have HG0 := Lib.hid hg0
  obtain ⟨B, hBe⟩ : ∃ z, W0.heap.size = z := ⟨_, rfl⟩
  have hB2 : w.heap.size + 2 ≤ B := by have := hb1.lt; omega
  have hBw : w.heap.size ≤ B := by omega
  have hzB : B ≤ W0.heap.size := by omega
  clear hb0 hb1 hg0 hBe
  go_wp2_with fail
  go_loopw [10] (fun i wr => ∃ m : Nat, ∃ wv : World, wv = wr ∧ m ≤ ks.length ∧ i = .int .i64 m ∧ (∀ (j : Nat) (y : Lay), j < m → ks[j]? = some y → pane ∉ panesL y) ∧ Grows W0 wv) (fun i _ => ks.length - (intOf i).toNat)
  case atStart => exact ⟨0, _, rfl, Nat.zero_le _, rfl, fun j y hj => by omega, Grows.refl _⟩
  case round =>
    obtain ⟨m, wv, rfl, hm, rfl, hno, hg⟩ := hrel
    have HG := Lib.hid hg
    have HNO := Lib.hid hno
    have hsz := hg.size
    obtain ⟨a0, a1, a2, a3⟩ := (HB0.out.grows hg).four
    obtain ⟨f0, f1, f2, f3⟩ := (HB0.out.grows hg).four'
    obtain ⟨b0, b1, b2, b3⟩ := (HB1.out.grows hg).four
    obtain ⟨d0, d1, d2, d3⟩ := (HB1.out.grows hg).four'
    have hl0 := (HB0.out.grows hg).lt
    have hl1 := (HB1.out.grows hg).lt
    clear hno
    by_cases hlt : m < ks.length
    · obtain ⟨b, off, x, ka, kn, kc, xa, xn, xc, rfl, hb, -, hx, hmem, -, -, e0, e1, e4, e3, hL⟩ := (Hin.out.grows (HG0.out.trans hg)).at_ hlt
      obtain ⟨bw, ow, yw, rfl, -, -, hyw, -, -⟩ := Hiw.out.at_ (show m < ws.length from HWL.out ▸ hlt)
      have HX := Lib.hid hx
      have HYW := Lib.hid hyw
      have HMEM := Lib.hid hmem
      have HLX := Lib.hid hL
      have HE := Lib.hid (And.intro hb (And.intro e0 (And.intro e1 (And.intro e4 e3))))
      have HP := Lib.hid fun W (g : Grows wv W) => rpanes_any x (HL.out x hmem) _ _ W (hL.grows g)
      clear hg hx hmem hL hyw
      by_cases hp : pane ∈ panesL x
      · have hpd : decide (pane ∈ panesL x) = true := decide_eq_true hp
        have HPI := Lib.hid hp
        clear hp
        go_upto_region 5 with (first | (go_at_call 22; (go_must (with_reducible refine (HP.out _ (by repeat' (first | (with_reducible exact Grows.refl _) | (with_reducible refine Grows.alloc ?_ _) | (with_reducible refine Grows.drew ?_) | (with_reducible refine Grows.ext ?_ _ _)))).mono ?_)); rintro e w2 ⟨v2, rfl, hv2, hg2⟩) | (go_at_call 42; (go_must (with_reducible refine (has_any _ _ _ _ hv2).mono ?_)); rintro e w3 ⟨rfl, rfl⟩))
        have hgW : Grows W0 w2 := HG.out.trans hg2
        have HGA := Lib.hid (HG0.out.trans hgW)
        have hs2 := hgW.size
        obtain ⟨a0, a1, a2, a3⟩ := (HB0.out.grows hgW).four
        obtain ⟨f0, f1, f2, f3⟩ := (HB0.out.grows hgW).four'
        obtain ⟨b0, b1, b2, b3⟩ := (HB1.out.grows hgW).four
        obtain ⟨d0, d1, d2, d3⟩ := (HB1.out.grows hgW).four'
        have hl0 := (HB0.out.grows hgW).lt
        have hl1 := (HB1.out.grows hgW).lt
        clear e0 e1 e4 e3 hb hsz hpd
        go_upto_region 9 with (first | (at_builtin; ((refine wpList_appO _ rfl (.tmp 32) (.tmp 34) 22 rfl B 25 i25 _ 4 64 Try.underlying22 hi25 hz25 hs25 hb25 rfl (by decide) 0 ks.length (kidC [] noG) (kidC ks G) (World.ownsRow_nil _ _ _ _) ((Hin.out.grows HGA.out).shut rfl hcap hmx).cells (kidC_one (Hin.out.grows HGA.out).kids) (by unfold maxLen; omega) (by omega) (by omega) ?_)); (go_must (intro v3 w8 row8 q1 q2 q3 q4; have hrk := (KRow.nil (But w.heap.size S) B w2).addKs ((KRow.nil (But w.heap.size S) B w2).olds2 hBw (Hin.out.grows HGA.out)) (by simp) q1 q2 q3 q4; have hg8 : Grows w2 w8 := appended_grows (Grows.refl w2) q2 (fun k e => by cases (q3 k e).2.2); clear q1 q2 q3 q4; obtain ⟨a0, a1, a2, a3⟩ := (HB0.out.grows (hgW.trans hg8)).four; obtain ⟨f0, f1, f2, f3⟩ := (HB0.out.grows (hgW.trans hg8)).four'; obtain ⟨b0, b1, b2, b3⟩ := (HB1.out.grows (hgW.trans hg8)).four; obtain ⟨d0, d1, d2, d3⟩ := (HB1.out.grows (hgW.trans hg8)).four'; have hl0 := (HB0.out.grows (hgW.trans hg8)).lt; have hl1 := (HB1.out.grows (hgW.trans hg8)).lt))) | (at_builtin; (go_must (refine wpList_appO _ rfl (.tmp 36) (.tmp 38) 23 rfl B 3 i3 _ 1 8 Try.underlying23 hi3 hz3 hs3 hb3 rfl (by decide) 0 ws.length (intC []) (intC ws) (World.ownsRow_nil _ _ _ _) ((Hiw.out.grows (HGA.out.trans hg8)).shut HWL.out hwc hwm).cells (intC_one _) (by unfold maxLen; omega) (by omega) (by have := hg8.size; omega) ?_)); (go_must (intro v4 w9 row9 q1 q2 q3 q4; have hrw := hrk.addWs (by simp [HWL.out]) q1 q2 q3 q4; have hg9 : Grows w2 w9 := appended_grows hg8 q2 (fun k e => by cases (q3 k e).2.2); clear q1 q2 q3 q4; obtain ⟨a0, a1, a2, a3⟩ := (HB0.out.grows (hgW.trans hg9)).four; obtain ⟨f0, f1, f2, f3⟩ := (HB0.out.grows (hgW.trans hg9)).four'; obtain ⟨b0, b1, b2, b3⟩ := (HB1.out.grows (hgW.trans hg9)).four; obtain ⟨d0, d1, d2, d3⟩ := (HB1.out.grows (hgW.trans hg9)).four'; have hl0 := (HB0.out.grows (hgW.trans hg9)).lt; have hl1 := (HB1.out.grows (hgW.trans hg9)).lt))))
        refine abs_worldM (fun W => Grows wv W ∧ KRow (But w.heap.size S) B W v3 v4 ks ws (joinG 0 noG G)) ⟨hg2.trans hg9, hrw⟩ ?_
        clear hrk hrw hg8 hg9 hs2 hgW HGA hv2 hg2 a0 a1 a2 a3 f0 f1 f2 f3 b0 b1 b2 b3 d0 d1 d2 d3 hl0 hl1
        rintro W5 ⟨hg5, hro⟩
        have HRO := Lib.hid hro
        have HG5 := Lib.hid hg5
        have hsz : B ≤ W5.heap.size := Nat.le_trans hzB (HG.out.trans hg5).size
        obtain ⟨hb, e0, e1, e4, e3⟩ := HE.out
        replace e0 := (hg5.cellOf hb).trans e0
        replace e1 := (hg5.cellOf hb).trans e1
        replace e4 := (hg5.cellOf hb).trans e4
        replace e3 := (hg5.cellOf hb).trans e3
        replace hb := Nat.lt_of_lt_of_le hb hg5.size
        obtain ⟨a0, a1, a2, a3⟩ := (HB0.out.grows (HG.out.trans hg5)).four
        obtain ⟨f0, f1, f2, f3⟩ := (HB0.out.grows (HG.out.trans hg5)).four'
        obtain ⟨b0, b1, b2, b3⟩ := (HB1.out.grows (HG.out.trans hg5)).four
        obtain ⟨d0, d1, d2, d3⟩ := (HB1.out.grows (HG.out.trans hg5)).four'
        have hl0 := (HB0.out.grows (HG.out.trans hg5)).lt
        have hl1 := (HB1.out.grows (HG.out.trans hg5)).lt
        have HC := Lib.hid fun W (g : Grows W5 W) => HI.out x HMEM.out (Off (But w.heap.size S) v3 v4) _ _ W ((HRO.out.grows g).fresh (but_fresh HS.out (by have := g.size; omega))) ((HRO.out.lay_old2 hBw (HLX.out.grows hg5)).grows g)
        obtain ⟨y, t, hq⟩ : ∃ y t, replL (resizeE2 kind delta) pane x = (y, t) := ⟨_, _, rfl⟩
        rw [hq] at HC
        have HQ := Lib.hid hq
        clear hq hg5 hro
        go_upto_region 10 with (go_at_call 52; (go_must (with_reducible refine (HC.out _ (by repeat' (first | (with_reducible exact Grows.refl _) | (with_reducible refine Grows.alloc ?_ _) | (with_reducible refine Grows.drew ?_) | (with_reducible refine Grows.ext ?_ _ _)))).mono ?_)); rintro e w7 hE; obtain ⟨vk7, vw7, rfl, hl7, hg7⟩ := hE.open_; clear hE; obtain ⟨ka7, kc7, rfl, -⟩ := hl7.kids.shape rfl; obtain ⟨wa7, wc7, rfl, -⟩ := hl7.ints.shape rfl)
        have HL7 := Lib.hid hl7
        have HG7 := Lib.hid hg7
        clear hl7
        refine abs_worldM (fun W => Grows w7 W ∧ Blk W w7.heap.size 25 #[.int .i64 y.kind, .int .i64 y.pane, .slice ka7 y.kids.length kc7, .slice wa7 y.ws.length wc7]) ⟨(by repeat' (first | (with_reducible exact Grows.refl _) | (with_reducible refine Grows.alloc ?_ _) | (with_reducible refine Grows.drew ?_) | (with_reducible refine Grows.ext ?_ _ _))), Blk.new (by simp)⟩ ?_
        rintro W6 ⟨hg6, hb6⟩
        have hg56 : Grows W5 W6 := HG7.out.trans hg6
        have hgW : Grows W0 W6 := (HG.out.trans HG5.out).trans hg56
        have HGW := Lib.hid hgW
        have HR6 := Lib.hid (HRO.out.grows hg56)
        have HY6 := Lib.hid (HL7.out.grows hg6)
        have hs6 := hgW.size
        obtain ⟨m0, m1, m2, m3⟩ := hb6.four
        have hlm := hb6.lt
        clear a0 a1 a2 a3 f0 f1 f2 f3 b0 b1 b2 b3 d0 d1 d2 d3 hl0 hl1 e0 e1 e4 e3 hb hb6 hg6 hg56
        obtain ⟨a0, a1, a2, a3⟩ := (HB0.out.grows hgW).four
        obtain ⟨f0, f1, f2, f3⟩ := (HB0.out.grows hgW).four'
        obtain ⟨b0, b1, b2, b3⟩ := (HB1.out.grows hgW).four
        obtain ⟨d0, d1, d2, d3⟩ := (HB1.out.grows hgW).four'
        have hl0 := (HB0.out.grows hgW).lt
        have hl1 := (HB1.out.grows hgW).lt
        clear hgW hg7
        generalize hqn : y.kids.length = qn at *
        generalize hqw : y.ws.length = qw at *
        clear hqn hqw
        cases t with
        | true =>
          obtain ⟨g, off3, rc3, rfl, eo, hBg, hgl, ⟨c0, p0⟩, ⟨c1, p1⟩, ⟨c2, p2⟩, ⟨c3, p3⟩, z0, z1, z2, z3, hput⟩ := HR6.out.putK HX.out
          have HPUT := Lib.hid (hput y _ _ HY6.out)
          clear hput eo
          go_upto_region 12 with fail
          refine abs_worldM (fun W => Grows w W ∧ KRow (But w.heap.size S) B W (.slice (some ⟨g, off3, none⟩) ks.length rc3) v4 (withL ks m 1 [y]) ws (setG m (joinG 0 noG G) (.slice ka7 qn kc7, .slice wa7 qw wc7)) ∧ Blk W w.heap.size 25 #[.int .i64 k, .int .i64 p, .slice (some ⟨b, off, none⟩) ks.length cap, .slice (some ⟨bw, ow, none⟩) ks.length wc] ∧ Blk W (w.heap.size + 1) 25 #[.int .i64 0, .int .i64 0, .slice none 0 0, .slice none 0 0]) ⟨((((HG0.out.trans HGW.out).setCell (by omega) _).setCell (by omega) _).setCell (by omega) _).setCell (by omega) _, HPUT.out, ((((HB0.out.grows HGW.out).other (by omega)).other (by omega)).other (by omega)).other (by omega), ((((HB1.out.grows HGW.out).other (by omega)).other (by omega)).other (by omega)).other (by omega)⟩ ?_
          clear a0 a1 a2 a3 f0 f1 f2 f3 b0 b1 b2 b3 d0 d1 d2 d3 hl0 hl1 m0 m1 m2 m3 hlm hgl p0 p1 p2 p3 z0 z1 z2 z3 HPUT HR6 HY6
          rintro W8 ⟨hg8, hr8, hb8, hb9⟩
          have HG8 := Lib.hid hg8
          have HR8 := Lib.hid hr8
          have HB8 := Lib.hid hb8
          have HB9 := Lib.hid hb9
          obtain ⟨a0, a1, a2, a3⟩ := hb8.four
          obtain ⟨f0, f1, f2, f3⟩ := hb8.four'
          obtain ⟨b0, b1, b2, b3⟩ := hb9.four
          obtain ⟨d0, d1, d2, d3⟩ := hb9.four'
          have hl0 := hb8.lt
          have hl1 := hb9.lt
          have e2 : replL (resizeE2 kind delta) pane (.mk k p ks ws) = (.mk k p (withL ks m 1 [y]) ws, true) := by
            have := repl_in (ed := resizeE2 kind delta) (k := k) (p := p) (ws := ws) HX.out HPI.out HNO.out (by rw [HQ.out])
            rwa [HQ.out] at this
          have E2 := Lib.hid e2
          clear hg8 hr8 hb8 hb9 e2
          go_wp2_with fail
          refine ret_cell_tmp (t := 25) (n := w.heap.size + 1) (cs := #[.int .i64 k, .int .i64 p, .slice (some ⟨g, off3, none⟩) ks.length rc3, .slice (some ⟨bw, ow, none⟩) ks.length wc]) rfl rfl rfl ?_ Try.underlying25 rfl (by kernel_rfl) rfl ?_
          · exact HB9.out.other (by omega) |>.set4
          · rw [E2.out]
            have hsh := HR8.out.shut (k := k) (p := p) (but_fresh HS.out hB2) (by rw [with_set HX.out, List.length_set]; omega) (by omega)
            exact ⟨_, _, rfl, (((LayAt_mk.2 ⟨HH.out.ints.grows HG8.out, hsh.kids⟩).same but_set0).same (but_set4 _ _ _ _)).unbut, (HG8.out.setCell (Nat.le_refl _) _).set4 (by omega) _ _ _ _⟩
        | false =>
          have e2 : replL (resizeE2 kind delta) pane (.mk k p ks ws) = resizeE2 kind delta (.mk k p ks ws) m := repl_at HX.out HPI.out HNO.out (by rw [HQ.out])
          have HE2 := Lib.hid e2
          clear e2
          by_cases hkk : k = kind
          · subst hkk
            have E2 := Lib.hid (HE2.out.trans (resizeE2_same (k := k) (p := p) (delta := delta) (ks := ks) HYW.out))
            clear HE2
            obtain ⟨M1, hM1⟩ : ∃ z, max delta (-2000) = z := ⟨_, rfl⟩
            have r1 := max2_run delta (-2000)
            rw [hM1] at E2 r1
            obtain ⟨M2, hM2⟩ : ∃ z, min M1 2000 = z := ⟨_, rfl⟩
            have r2 := min2_run M1 2000
            rw [hM2] at E2 r2
            have hM2b : -2000 ≤ M2 ∧ M2 ≤ 2000 := by omega
            obtain ⟨M3, hM3⟩ : ∃ z, max (yw + M2) 1 = z := ⟨_, rfl⟩
            have r3 := max2_run (yw + M2) 1
            rw [hM3] at E2 r3
            obtain ⟨M4, hM4⟩ : ∃ z, min M3 1000 = z := ⟨_, rfl⟩
            have r4 := min2_run M3 1000
            rw [hM4] at E2 r4
            clear hM1 hM2 hM3 hM4
            obtain ⟨g, off3, rc3, e9, eo, hBg, hgl, p0, z0, hput⟩ := HR6.out.putW HYW.out
            rw [HWL.out] at e9
            subst e9
            have hwr := HWR.out yw (List.mem_of_getElem? HYW.out)
            have HPUT := Lib.hid (hput M4)
            clear hput eo
            go_upto_region 18 with fail
            refine abs_worldM (fun W => Grows w W ∧ KRow (But w.heap.size S) B W v3 (.slice (some ⟨g, off3, none⟩) ks.length rc3) ks (withL ws m 1 [M4]) (joinG 0 noG G) ∧ Blk W w.heap.size 25 #[.int .i64 k, .int .i64 p, .slice (some ⟨b, off, none⟩) ks.length cap, .slice (some ⟨bw, ow, none⟩) ks.length wc] ∧ Blk W (w.heap.size + 1) 25 #[.int .i64 0, .int .i64 0, .slice none 0 0, .slice none 0 0]) ⟨(HG0.out.trans HGW.out).setCell (by omega) _, HPUT.out, (HB0.out.grows HGW.out).other (by omega), (HB1.out.grows HGW.out).other (by omega)⟩ ?_
            clear a0 a1 a2 a3 f0 f1 f2 f3 b0 b1 b2 b3 d0 d1 d2 d3 hl0 hl1 m0 m1 m2 m3 hlm hgl p0 z0 HPUT HR6 HY6
            rintro W8 ⟨hg8, hr8, hb8, hb9⟩
            have HG8 := Lib.hid hg8
            have HR8 := Lib.hid hr8
            have HB8 := Lib.hid hb8
            have HB9 := Lib.hid hb9
            obtain ⟨a0, a1, a2, a3⟩ := hb8.four
            obtain ⟨f0, f1, f2, f3⟩ := hb8.four'
            obtain ⟨b0, b1, b2, b3⟩ := hb9.four
            obtain ⟨d0, d1, d2, d3⟩ := hb9.four'
            have hl0 := hb8.lt
            have hl1 := hb9.lt
            clear hg8 hr8 hb8 hb9
            go_wp2_with fail
            refine ret_cell_tmp (t := 25) (n := w.heap.size + 1) (cs := #[.int .i64 k, .int .i64 p, .slice (some ⟨b, off, none⟩) ks.length cap, .slice (some ⟨g, off3, none⟩) ks.length rc3]) rfl rfl rfl ?_ Try.underlying25 rfl (by kernel_rfl) rfl ?_
            · exact HB9.out.other (by omega) |>.set4
            · rw [E2.out]
              have hsh := HR8.out.shut (k := k) (p := p) (but_fresh HS.out hB2) (by omega) (by rw [with_set HYW.out, List.length_set, HWL.out]; omega)
              exact ⟨_, _, rfl, (((LayAt_mk.2 ⟨hsh.ints, HH.out.kids.grows HG8.out⟩).same but_set0).same (but_set4 _ _ _ _)).unbut, (HG8.out.setCell (Nat.le_refl _) _).set4 (by omega) _ _ _ _⟩
          · have E2 := Lib.hid (HE2.out.trans (resizeE2_other (k := k) (p := p) (delta := delta) (ks := ks) (ws := ws) (i := m) hkk))
            clear HE2
            go_wp2_with fail
            refine ret_cell_tmp (t := 25) (n := w.heap.size + 1) (cs := #[.int .i64 k, .int .i64 p, .slice (some ⟨b, off, none⟩) ks.length cap, .slice (some ⟨bw, ow, none⟩) ks.length wc]) rfl rfl rfl ?_ Try.underlying25 rfl (by kernel_rfl) rfl ?_
            · exact (HB1.out.grows HGW.out).set4
            · rw [E2.out]
              exact ⟨_, _, rfl, ((HH.out.grows (HG0.out.trans HGW.out)).same (but_set4 _ _ _ _)).unbut, (HG0.out.trans HGW.out).set4 (by omega) _ _ _ _⟩
      · have hpd : decide (pane ∈ panesL x) = false := decide_eq_false hp
        have HNX := Lib.hid (no_snoc HNO.out HX.out hp)
        clear hp
        go_wp2_with (first | (go_at_call 22; (go_must (with_reducible refine (HP.out _ (by repeat' (first | (with_reducible exact Grows.refl _) | (with_reducible refine Grows.alloc ?_ _) | (with_reducible refine Grows.drew ?_) | (with_reducible refine Grows.ext ?_ _ _)))).mono ?_)); rintro e w2 ⟨v2, rfl, hv2, hg2⟩) | (go_at_call 42; (go_must (with_reducible refine (has_any _ _ _ _ hv2).mono ?_)); rintro e w3 ⟨rfl, rfl⟩))
        go_roundw
        case rel => exact ⟨m + 1, _, rfl, by omega, by go_num, HNX.out, HG.out.trans hg2⟩
        case measure => simp [intOf]; omega
    · have e : m = ks.length := by omega
      subst e
      have E2 := Lib.hid (repl_none (ed := resizeE2 kind delta) (k := k) (p := p) (ws := ws) (ks := ks) (pane := pane) fun j y hy => HNO.out j y (List.getElem?_eq_some_iff.1 hy).1 hy)
      clear hg
      go_wp2_with fail
      refine ret_cell_tmp (t := 25) (n := w.heap.size + 1) (cs := #[.int .i64 k, .int .i64 p, .slice a ks.length cap, .slice wa ks.length wc]) rfl rfl rfl ?_ Try.underlying25 rfl (by kernel_rfl) rfl ?_
      · exact (HB1.out.grows HG.out).set4
      · rw [E2.out]
        exact ⟨_, _, rfl, ((HH.out.grows (HG0.out.trans HG.out)).same (but_set4 _ _ _ _)).unbut, (HG0.out.trans HG.out).set4 (by omega) _ _ _ _⟩
end Go.Proofs.Ytbobpgegkmcapaa

namespace Go.Proofs.Ytbobpgegkmcapaa
open Go.RowKit

/-- The edit's number, as the laws take it. -/
abbrev kindE0 (xk : Int) : Int := (IntKind.u64.wrap xk).tmod 5
theorem facts25 {W : World} {p q r : Nat} {t t' t'' : TypeId} {x0 x1 x2 x3 y0 y1 y2 y3 y4 z0 z1 z2 z3 : Value} (h0 : Blk W p t #[x0, x1, x2, x3]) (h1 : Blk W q t' #[y0, y1, y2, y3, y4]) (h3 : Blk W r t'' #[z0, z1, z2, z3]) : (W.cell? ⟨p, 0, none⟩ = some x0 ∧ W.cell? ⟨p, 1, none⟩ = some x1 ∧ W.cell? ⟨p, 2, none⟩ = some x2 ∧ W.cell? ⟨p, 3, none⟩ = some x3) ∧ (W.cell? ⟨q, 0, none⟩ = some y0 ∧ W.cell? ⟨q, 1, none⟩ = some y1 ∧ W.cell? ⟨q, 2, none⟩ = some y2 ∧ W.cell? ⟨q, 3, none⟩ = some y3 ∧ W.cell? ⟨q, 4, none⟩ = some y4) ∧ (W.cell? ⟨r, 0, none⟩ = some z0 ∧ W.cell? ⟨r, 1, none⟩ = some z1 ∧ W.cell? ⟨r, 2, none⟩ = some z2 ∧ W.cell? ⟨r, 3, none⟩ = some z3) ∧ (W.frozen? ⟨r, 0, none⟩ = false ∧ W.frozen? ⟨r, 1, none⟩ = false ∧ W.frozen? ⟨r, 2, none⟩ = false ∧ W.frozen? ⟨r, 3, none⟩ = false) ∧ p < W.heap.size ∧ q < W.heap.size ∧ r < W.heap.size :=
  ⟨h0.four, h1.five, h3.four, h3.four', h0.lt, h1.lt, h3.lt⟩
set_option maxRecDepth 100000 in
set_option maxHeartbeats 4000000 in
theorem want_no {S : Nat → Prop} (L : Lay) (xk xa xp xw xn pane : Int) (hr : rightL L = false) (vk vw : Value) (w : World) (_hS : ∀ b, w.heap.size ≤ b → S b) (h : LayAt S w L vk vw) : Calls Try.prog 25 #[.agg #[.int .i64 L.kind, .int .i64 L.pane, vk, vw], .agg #[.int .i64 xk, .int .i64 xa, .int .i64 xp, .int .i64 xw, .int .i64 xn], .int .i64 pane] w (fun e w' => EdResI S w w' (zeroL, 440) e) := by
  have HR := Lib.hid fun W (g : Grows w W) => right_any L _ _ W (h.grows g)
  rw [hr] at HR
  obtain ⟨ka, kc, e1, -⟩ := h.kids.shape rfl
  obtain ⟨wa, wc, e2, -⟩ := h.ints.shape rfl
  subst e1 e2
  clear h _hS
  generalize L.kids.length = kn at *
  generalize L.ws.length = wn at *
  go_enter Try.func25, Try.ntmps25
  go_upto_region 1 with fail
  refine abs_worldM (fun W' => Grows w W' ∧ Blk W' w.heap.size 25 #[.int .i64 L.kind, .int .i64 L.pane, .slice ka kn kc, .slice wa wn wc] ∧ Blk W' (w.heap.size + 1) 54 #[.int .i64 xk, .int .i64 xa, .int .i64 xp, .int .i64 xw, .int .i64 xn] ∧ Blk W' (w.heap.size + 1 + 1) 25 #[.int .i64 0, .int .i64 0, .slice none 0 0, .slice none 0 0]) (boxes3 _ _ _ _) ?_
  rintro W1 ⟨hg1, hb0, hb1, hb3⟩
  have HB0 := Lib.hid hb0
  have HB1 := Lib.hid hb1
  have HB3 := Lib.hid hb3
  have HG1 := Lib.hid hg1
  have hs1 : w.heap.size + 3 ≤ W1.heap.size := by have := hb3.lt; omega
  clear hb0 hb1 hb3 hg1
  have HF := Lib.hid fun W (g : Grows W1 W) => facts25 (HB0.out.grows g) (HB1.out.grows g) (HB3.out.grows g)
  obtain ⟨⟨a0, a1, a2, a3⟩, ⟨b0, b1, b2, b3, b4⟩, ⟨c0, c1, c2, c3⟩, ⟨d0, d1, d2, d3⟩, hl0, hl1, hl3⟩ := HF.out _ (Grows.refl W1)
  go_wp2_with (go_at_call 11; (go_must (with_reducible refine (HR.out _ HG1.out).mono ?_)); rintro e w1 ⟨rfl, hgW⟩; obtain ⟨⟨a0, a1, a2, a3⟩, ⟨b0, b1, b2, b3, b4⟩, ⟨c0, c1, c2, c3⟩, ⟨d0, d1, d2, d3⟩, hl0, hl1, hl3⟩ := HF.out _ hgW)
  all_goals
    refine ret_cell_tmp (t := 25) (n := w.heap.size + 1 + 1) (cs := #[.int .i64 0, .int .i64 0, .slice none 0 0, .slice none 0 0]) rfl rfl rfl ?_ Try.underlying25 rfl (by kernel_rfl) rfl ?_
    · exact (HB3.out.grows hgW).set4
    · exact EdResI.zero (Grows.set4 (HG1.out.trans hgW) (by omega) _ _ _ _) _
set_option maxRecDepth 100000 in
set_option maxHeartbeats 4000000 in
theorem want_nopane {S : Nat → Prop} (L : Lay) (xk xa xp xw xn pane : Int) (hr : rightL L = true) (k3 : (kindE0 xk == 3) = false) (hp : pane ∉ panesL L) (vk vw : Value) (w : World) (_hS : ∀ b, w.heap.size ≤ b → S b) (h : LayAt S w L vk vw) : Calls Try.prog 25 #[.agg #[.int .i64 L.kind, .int .i64 L.pane, vk, vw], .agg #[.int .i64 xk, .int .i64 xa, .int .i64 xp, .int .i64 xw, .int .i64 xn], .int .i64 pane] w (fun e w' => EdResI S w w' (zeroL, 441) e) := by
  have g3 : ((IntKind.u64.wrap xk).tmod 5 == 3) = false := k3
  have q0 : decide (pane ∈ panesL L) = false := decide_eq_false hp
  obtain ⟨hok, hn, hnd⟩ := right_ok hr
  have HR := Lib.hid fun W (g : Grows w W) => right_any L _ _ W (h.grows g)
  rw [hr] at HR
  have HP := Lib.hid fun W (g : Grows w W) => rpanes_any L (by omega) _ _ W (h.grows g)
  obtain ⟨ka, kc, e1, -⟩ := h.kids.shape rfl
  obtain ⟨wa, wc, e2, -⟩ := h.ints.shape rfl
  subst e1 e2
  obtain ⟨pn, hpn⟩ : ∃ z, (panesL L).length = z := ⟨_, rfl⟩
  have HPN := Lib.hid hpn
  clear h _hS hr hok hn hnd hpn hp
  generalize L.kids.length = kn at *
  generalize L.ws.length = wn at *
  go_enter Try.func25, Try.ntmps25
  go_upto_region 1 with fail
  refine abs_worldM (fun W' => Grows w W' ∧ Blk W' w.heap.size 25 #[.int .i64 L.kind, .int .i64 L.pane, .slice ka kn kc, .slice wa wn wc] ∧ Blk W' (w.heap.size + 1) 54 #[.int .i64 xk, .int .i64 xa, .int .i64 xp, .int .i64 xw, .int .i64 xn] ∧ Blk W' (w.heap.size + 1 + 1) 25 #[.int .i64 0, .int .i64 0, .slice none 0 0, .slice none 0 0]) (boxes3 _ _ _ _) ?_
  rintro W1 ⟨hg1, hb0, hb1, hb3⟩
  have HB0 := Lib.hid hb0
  have HB1 := Lib.hid hb1
  have HB3 := Lib.hid hb3
  have HG1 := Lib.hid hg1
  have hs1 : w.heap.size + 3 ≤ W1.heap.size := by have := hb3.lt; omega
  clear hb0 hb1 hb3 hg1
  have HF := Lib.hid fun W (g : Grows W1 W) => facts25 (HB0.out.grows g) (HB1.out.grows g) (HB3.out.grows g)
  obtain ⟨⟨a0, a1, a2, a3⟩, ⟨b0, b1, b2, b3, b4⟩, ⟨c0, c1, c2, c3⟩, ⟨d0, d1, d2, d3⟩, hl0, hl1, hl3⟩ := HF.out _ (Grows.refl W1)
  go_wp2_with (first | (go_at_call 11; (go_must (with_reducible refine (HR.out _ HG1.out).mono ?_)); rintro e w1 ⟨rfl, hgW⟩; obtain ⟨⟨a0, a1, a2, a3⟩, ⟨b0, b1, b2, b3, b4⟩, ⟨c0, c1, c2, c3⟩, ⟨d0, d1, d2, d3⟩, hl0, hl1, hl3⟩ := HF.out _ hgW) | (go_at_call 22; (go_must (with_reducible refine (HP.out _ (HG1.out.trans hgW)).mono ?_)); rintro e w2 ⟨v2, rfl, hv2, hg2⟩; replace hgW := hgW.trans hg2; obtain ⟨va, vc, rfl, -, -⟩ := hv2.shape HPN.out; obtain ⟨⟨a0, a1, a2, a3⟩, ⟨b0, b1, b2, b3, b4⟩, ⟨c0, c1, c2, c3⟩, ⟨d0, d1, d2, d3⟩, hl0, hl1, hl3⟩ := HF.out _ hgW) | (go_at_call 42; (go_must (with_reducible refine (has_any _ _ _ _ hv2).mono ?_)); rintro e w3 ⟨rfl, rfl⟩))
  all_goals (try (exfalso; omega))
  all_goals
    refine ret_cell_tmp (t := 25) (n := w.heap.size + 1 + 1) (cs := #[.int .i64 0, .int .i64 0, .slice none 0 0, .slice none 0 0]) rfl rfl rfl ?_ Try.underlying25 rfl (by kernel_rfl) rfl ?_
    · exact (HB3.out.grows hgW).set4
    · exact EdResI.zero (Grows.set4 (HG1.out.trans hgW) (by omega) _ _ _ _) _
set_option maxRecDepth 100000 in
set_option maxHeartbeats 4000000 in
theorem want_split_bad1 {S : Nat → Prop} (L : Lay) (xk xa xp xw xn pane : Int) (hr : rightL L = true) (k3 : (kindE0 xk == 3) = false) (k0 : (kindE0 xk == 0) = true) (hp : pane ∈ panesL L) (hw : ¬ (xw = 2 ∨ xw = 3)) (vk vw : Value) (w : World) (_hS : ∀ b, w.heap.size ≤ b → S b) (h : LayAt S w L vk vw) : Calls Try.prog 25 #[.agg #[.int .i64 L.kind, .int .i64 L.pane, vk, vw], .agg #[.int .i64 xk, .int .i64 xa, .int .i64 xp, .int .i64 xw, .int .i64 xn], .int .i64 pane] w (fun e w' => EdResI S w w' (zeroL, 2) e) := by
  have g3 : ((IntKind.u64.wrap xk).tmod 5 == 3) = false := k3
  have g0 : ((IntKind.u64.wrap xk).tmod 5 == 0) = true := k0
  have q0 : decide (pane ∈ panesL L) = true := decide_eq_true hp
  have v2 : (xw == 2) = false := by simpa using fun h => hw (.inl h)
  have v3 : (xw == 3) = false := by simpa using fun h => hw (.inr h)
  obtain ⟨hok, hn, hnd⟩ := right_ok hr
  have HR := Lib.hid fun W (g : Grows w W) => right_any L _ _ W (h.grows g)
  rw [hr] at HR
  have HP := Lib.hid fun W (g : Grows w W) => rpanes_any L (by omega) _ _ W (h.grows g)
  obtain ⟨ka, kc, e1, -⟩ := h.kids.shape rfl
  obtain ⟨wa, wc, e2, -⟩ := h.ints.shape rfl
  subst e1 e2
  obtain ⟨pn, hpn⟩ : ∃ z, (panesL L).length = z := ⟨_, rfl⟩
  have HPN := Lib.hid hpn
  clear h _hS hr hok hn hnd hpn hp hw
  generalize L.kids.length = kn at *
  generalize L.ws.length = wn at *
  go_enter Try.func25, Try.ntmps25
  go_upto_region 1 with fail
  refine abs_worldM (fun W' => Grows w W' ∧ Blk W' w.heap.size 25 #[.int .i64 L.kind, .int .i64 L.pane, .slice ka kn kc, .slice wa wn wc] ∧ Blk W' (w.heap.size + 1) 54 #[.int .i64 xk, .int .i64 xa, .int .i64 xp, .int .i64 xw, .int .i64 xn] ∧ Blk W' (w.heap.size + 1 + 1) 25 #[.int .i64 0, .int .i64 0, .slice none 0 0, .slice none 0 0]) (boxes3 _ _ _ _) ?_
  rintro W1 ⟨hg1, hb0, hb1, hb3⟩
  have HB0 := Lib.hid hb0
  have HB1 := Lib.hid hb1
  have HB3 := Lib.hid hb3
  have HG1 := Lib.hid hg1
  have hs1 : w.heap.size + 3 ≤ W1.heap.size := by have := hb3.lt; omega
  clear hb0 hb1 hb3 hg1
  have HF := Lib.hid fun W (g : Grows W1 W) => facts25 (HB0.out.grows g) (HB1.out.grows g) (HB3.out.grows g)
  obtain ⟨⟨a0, a1, a2, a3⟩, ⟨b0, b1, b2, b3, b4⟩, ⟨c0, c1, c2, c3⟩, ⟨d0, d1, d2, d3⟩, hl0, hl1, hl3⟩ := HF.out _ (Grows.refl W1)
  go_wp2_with (first | (go_at_call 11; (go_must (with_reducible refine (HR.out _ HG1.out).mono ?_)); rintro e w1 ⟨rfl, hgW⟩; obtain ⟨⟨a0, a1, a2, a3⟩, ⟨b0, b1, b2, b3, b4⟩, ⟨c0, c1, c2, c3⟩, ⟨d0, d1, d2, d3⟩, hl0, hl1, hl3⟩ := HF.out _ hgW) | (go_at_call 22; (go_must (with_reducible refine (HP.out _ (HG1.out.trans hgW)).mono ?_)); rintro e w2 ⟨v2, rfl, hv2, hg2⟩; replace hgW := hgW.trans hg2; obtain ⟨va, vc, rfl, -, -⟩ := hv2.shape HPN.out; obtain ⟨⟨a0, a1, a2, a3⟩, ⟨b0, b1, b2, b3, b4⟩, ⟨c0, c1, c2, c3⟩, ⟨d0, d1, d2, d3⟩, hl0, hl1, hl3⟩ := HF.out _ hgW) | (go_at_call 42; (go_must (with_reducible refine (has_any _ _ _ _ hv2).mono ?_)); rintro e w3 ⟨rfl, rfl⟩))
  all_goals (try (exfalso; omega))
  all_goals
    refine ret_cell_tmp (t := 25) (n := w.heap.size + 1 + 1) (cs := #[.int .i64 0, .int .i64 0, .slice none 0 0, .slice none 0 0]) rfl rfl rfl ?_ Try.underlying25 rfl (by kernel_rfl) rfl ?_
    · exact (HB3.out.grows hgW).set4
    · exact EdResI.zero (Grows.set4 (HG1.out.trans hgW) (by omega) _ _ _ _) _
set_option maxRecDepth 100000 in
set_option maxHeartbeats 4000000 in
theorem want_split_bad2 {S : Nat → Prop} (L : Lay) (xk xa xp xw xn pane : Int) (hr : rightL L = true) (k3 : (kindE0 xk == 3) = false) (k0 : (kindE0 xk == 0) = true) (hp : pane ∈ panesL L) (hw : (xw == 2) = true ∨ ((xw == 2) = false ∧ (xw == 3) = true)) (h1 : xn < 0) (vk vw : Value) (w : World) (_hS : ∀ b, w.heap.size ≤ b → S b) (h : LayAt S w L vk vw) : Calls Try.prog 25 #[.agg #[.int .i64 L.kind, .int .i64 L.pane, vk, vw], .agg #[.int .i64 xk, .int .i64 xa, .int .i64 xp, .int .i64 xw, .int .i64 xn], .int .i64 pane] w (fun e w' => EdResI S w w' (zeroL, 2) e) := by
  have g3 : ((IntKind.u64.wrap xk).tmod 5 == 3) = false := k3
  have g0 : ((IntKind.u64.wrap xk).tmod 5 == 0) = true := k0
  have q0 : decide (pane ∈ panesL L) = true := decide_eq_true hp
  obtain ⟨hok, hn, hnd⟩ := right_ok hr
  have HR := Lib.hid fun W (g : Grows w W) => right_any L _ _ W (h.grows g)
  rw [hr] at HR
  have HP := Lib.hid fun W (g : Grows w W) => rpanes_any L (by omega) _ _ W (h.grows g)
  obtain ⟨ka, kc, e1, -⟩ := h.kids.shape rfl
  obtain ⟨wa, wc, e2, -⟩ := h.ints.shape rfl
  subst e1 e2
  obtain ⟨pn, hpn⟩ : ∃ z, (panesL L).length = z := ⟨_, rfl⟩
  have HPN := Lib.hid hpn
  clear h _hS hr hok hn hnd hpn hp
  generalize L.kids.length = kn at *
  generalize L.ws.length = wn at *
  rcases hw with v2 | ⟨v2, v3⟩
  all_goals
    go_enter Try.func25, Try.ntmps25
    go_upto_region 1 with fail
    refine abs_worldM (fun W' => Grows w W' ∧ Blk W' w.heap.size 25 #[.int .i64 L.kind, .int .i64 L.pane, .slice ka kn kc, .slice wa wn wc] ∧ Blk W' (w.heap.size + 1) 54 #[.int .i64 xk, .int .i64 xa, .int .i64 xp, .int .i64 xw, .int .i64 xn] ∧ Blk W' (w.heap.size + 1 + 1) 25 #[.int .i64 0, .int .i64 0, .slice none 0 0, .slice none 0 0]) (boxes3 _ _ _ _) ?_
    rintro W1 ⟨hg1, hb0, hb1, hb3⟩
    have HB0 := Lib.hid hb0
    have HB1 := Lib.hid hb1
    have HB3 := Lib.hid hb3
    have HG1 := Lib.hid hg1
    have hs1 : w.heap.size + 3 ≤ W1.heap.size := by have := hb3.lt; omega
    clear hb0 hb1 hb3 hg1
    have HF := Lib.hid fun W (g : Grows W1 W) => facts25 (HB0.out.grows g) (HB1.out.grows g) (HB3.out.grows g)
    obtain ⟨⟨a0, a1, a2, a3⟩, ⟨b0, b1, b2, b3, b4⟩, ⟨c0, c1, c2, c3⟩, ⟨d0, d1, d2, d3⟩, hl0, hl1, hl3⟩ := HF.out _ (Grows.refl W1)
    go_wp2_with (first | (go_at_call 11; (go_must (with_reducible refine (HR.out _ HG1.out).mono ?_)); rintro e w1 ⟨rfl, hgW⟩; obtain ⟨⟨a0, a1, a2, a3⟩, ⟨b0, b1, b2, b3, b4⟩, ⟨c0, c1, c2, c3⟩, ⟨d0, d1, d2, d3⟩, hl0, hl1, hl3⟩ := HF.out _ hgW) | (go_at_call 22; (go_must (with_reducible refine (HP.out _ (HG1.out.trans hgW)).mono ?_)); rintro e w2 ⟨v2, rfl, hv2, hg2⟩; replace hgW := hgW.trans hg2; obtain ⟨va, vc, rfl, -, -⟩ := hv2.shape HPN.out; obtain ⟨⟨a0, a1, a2, a3⟩, ⟨b0, b1, b2, b3, b4⟩, ⟨c0, c1, c2, c3⟩, ⟨d0, d1, d2, d3⟩, hl0, hl1, hl3⟩ := HF.out _ hgW) | (go_at_call 42; (go_must (with_reducible refine (has_any _ _ _ _ hv2).mono ?_)); rintro e w3 ⟨rfl, rfl⟩))
    all_goals (try (exfalso; omega))
    all_goals
      refine ret_cell_tmp (t := 25) (n := w.heap.size + 1 + 1) (cs := #[.int .i64 0, .int .i64 0, .slice none 0 0, .slice none 0 0]) rfl rfl rfl ?_ Try.underlying25 rfl (by kernel_rfl) rfl ?_
      · exact (HB3.out.grows hgW).set4
      · exact EdResI.zero (Grows.set4 (HG1.out.trans hgW) (by omega) _ _ _ _) _
set_option maxRecDepth 100000 in
set_option maxHeartbeats 4000000 in
theorem want_split_bad3 {S : Nat → Prop} (L : Lay) (xk xa xp xw xn pane : Int) (hr : rightL L = true) (k3 : (kindE0 xk == 3) = false) (k0 : (kindE0 xk == 0) = true) (hp : pane ∈ panesL L) (hw : (xw == 2) = true ∨ ((xw == 2) = false ∧ (xw == 3) = true)) (_h1 : ¬ xn < 0) (h2 : 999 < xn) (vk vw : Value) (w : World) (_hS : ∀ b, w.heap.size ≤ b → S b) (h : LayAt S w L vk vw) : Calls Try.prog 25 #[.agg #[.int .i64 L.kind, .int .i64 L.pane, vk, vw], .agg #[.int .i64 xk, .int .i64 xa, .int .i64 xp, .int .i64 xw, .int .i64 xn], .int .i64 pane] w (fun e w' => EdResI S w w' (zeroL, 2) e) := by
  have g3 : ((IntKind.u64.wrap xk).tmod 5 == 3) = false := k3
  have g0 : ((IntKind.u64.wrap xk).tmod 5 == 0) = true := k0
  have q0 : decide (pane ∈ panesL L) = true := decide_eq_true hp
  obtain ⟨hok, hn, hnd⟩ := right_ok hr
  have HR := Lib.hid fun W (g : Grows w W) => right_any L _ _ W (h.grows g)
  rw [hr] at HR
  have HP := Lib.hid fun W (g : Grows w W) => rpanes_any L (by omega) _ _ W (h.grows g)
  obtain ⟨ka, kc, e1, -⟩ := h.kids.shape rfl
  obtain ⟨wa, wc, e2, -⟩ := h.ints.shape rfl
  subst e1 e2
  obtain ⟨pn, hpn⟩ : ∃ z, (panesL L).length = z := ⟨_, rfl⟩
  have HPN := Lib.hid hpn
  clear h _hS hr hok hn hnd hpn hp
  generalize L.kids.length = kn at *
  generalize L.ws.length = wn at *
  rcases hw with v2 | ⟨v2, v3⟩
  all_goals
    go_enter Try.func25, Try.ntmps25
    go_upto_region 1 with fail
    refine abs_worldM (fun W' => Grows w W' ∧ Blk W' w.heap.size 25 #[.int .i64 L.kind, .int .i64 L.pane, .slice ka kn kc, .slice wa wn wc] ∧ Blk W' (w.heap.size + 1) 54 #[.int .i64 xk, .int .i64 xa, .int .i64 xp, .int .i64 xw, .int .i64 xn] ∧ Blk W' (w.heap.size + 1 + 1) 25 #[.int .i64 0, .int .i64 0, .slice none 0 0, .slice none 0 0]) (boxes3 _ _ _ _) ?_
    rintro W1 ⟨hg1, hb0, hb1, hb3⟩
    have HB0 := Lib.hid hb0
    have HB1 := Lib.hid hb1
    have HB3 := Lib.hid hb3
    have HG1 := Lib.hid hg1
    have hs1 : w.heap.size + 3 ≤ W1.heap.size := by have := hb3.lt; omega
    clear hb0 hb1 hb3 hg1
    have HF := Lib.hid fun W (g : Grows W1 W) => facts25 (HB0.out.grows g) (HB1.out.grows g) (HB3.out.grows g)
    obtain ⟨⟨a0, a1, a2, a3⟩, ⟨b0, b1, b2, b3, b4⟩, ⟨c0, c1, c2, c3⟩, ⟨d0, d1, d2, d3⟩, hl0, hl1, hl3⟩ := HF.out _ (Grows.refl W1)
    go_wp2_with (first | (go_at_call 11; (go_must (with_reducible refine (HR.out _ HG1.out).mono ?_)); rintro e w1 ⟨rfl, hgW⟩; obtain ⟨⟨a0, a1, a2, a3⟩, ⟨b0, b1, b2, b3, b4⟩, ⟨c0, c1, c2, c3⟩, ⟨d0, d1, d2, d3⟩, hl0, hl1, hl3⟩ := HF.out _ hgW) | (go_at_call 22; (go_must (with_reducible refine (HP.out _ (HG1.out.trans hgW)).mono ?_)); rintro e w2 ⟨v2, rfl, hv2, hg2⟩; replace hgW := hgW.trans hg2; obtain ⟨va, vc, rfl, -, -⟩ := hv2.shape HPN.out; obtain ⟨⟨a0, a1, a2, a3⟩, ⟨b0, b1, b2, b3, b4⟩, ⟨c0, c1, c2, c3⟩, ⟨d0, d1, d2, d3⟩, hl0, hl1, hl3⟩ := HF.out _ hgW) | (go_at_call 42; (go_must (with_reducible refine (has_any _ _ _ _ hv2).mono ?_)); rintro e w3 ⟨rfl, rfl⟩))
    all_goals (try (exfalso; omega))
    all_goals
      refine ret_cell_tmp (t := 25) (n := w.heap.size + 1 + 1) (cs := #[.int .i64 0, .int .i64 0, .slice none 0 0, .slice none 0 0]) rfl rfl rfl ?_ Try.underlying25 rfl (by kernel_rfl) rfl ?_
      · exact (HB3.out.grows hgW).set4
      · exact EdResI.zero (Grows.set4 (HG1.out.trans hgW) (by omega) _ _ _ _) _
set_option maxRecDepth 100000 in
set_option maxHeartbeats 4000000 in
theorem want_split_bad4 {S : Nat → Prop} (L : Lay) (xk xa xp xw xn pane : Int) (hr : rightL L = true) (k3 : (kindE0 xk == 3) = false) (k0 : (kindE0 xk == 0) = true) (hp : pane ∈ panesL L) (hw : (xw == 2) = true ∨ ((xw == 2) = false ∧ (xw == 3) = true)) (h1 : ¬ xn < 0) (h2 : ¬ 999 < xn) (h3 : xn ∈ panesL L) (vk vw : Value) (w : World) (_hS : ∀ b, w.heap.size ≤ b → S b) (h : LayAt S w L vk vw) : Calls Try.prog 25 #[.agg #[.int .i64 L.kind, .int .i64 L.pane, vk, vw], .agg #[.int .i64 xk, .int .i64 xa, .int .i64 xp, .int .i64 xw, .int .i64 xn], .int .i64 pane] w (fun e w' => EdResI S w w' (zeroL, 2) e) := by
  have g3 : ((IntKind.u64.wrap xk).tmod 5 == 3) = false := k3
  have g0 : ((IntKind.u64.wrap xk).tmod 5 == 0) = true := k0
  have q0 : decide (pane ∈ panesL L) = true := decide_eq_true hp
  have q1 : decide (xn ∈ panesL L) = true := decide_eq_true h3
  obtain ⟨hok, hn, hnd⟩ := right_ok hr
  have HR := Lib.hid fun W (g : Grows w W) => right_any L _ _ W (h.grows g)
  rw [hr] at HR
  have HP := Lib.hid fun W (g : Grows w W) => rpanes_any L (by omega) _ _ W (h.grows g)
  obtain ⟨ka, kc, e1, -⟩ := h.kids.shape rfl
  obtain ⟨wa, wc, e2, -⟩ := h.ints.shape rfl
  subst e1 e2
  obtain ⟨pn, hpn⟩ : ∃ z, (panesL L).length = z := ⟨_, rfl⟩
  have HPN := Lib.hid hpn
  clear h _hS hr hok hn hnd hpn hp h3
  generalize L.kids.length = kn at *
  generalize L.ws.length = wn at *
  rcases hw with v2 | ⟨v2, v3⟩
  all_goals
    go_enter Try.func25, Try.ntmps25
    go_upto_region 1 with fail
    refine abs_worldM (fun W' => Grows w W' ∧ Blk W' w.heap.size 25 #[.int .i64 L.kind, .int .i64 L.pane, .slice ka kn kc, .slice wa wn wc] ∧ Blk W' (w.heap.size + 1) 54 #[.int .i64 xk, .int .i64 xa, .int .i64 xp, .int .i64 xw, .int .i64 xn] ∧ Blk W' (w.heap.size + 1 + 1) 25 #[.int .i64 0, .int .i64 0, .slice none 0 0, .slice none 0 0]) (boxes3 _ _ _ _) ?_
    rintro W1 ⟨hg1, hb0, hb1, hb3⟩
    have HB0 := Lib.hid hb0
    have HB1 := Lib.hid hb1
    have HB3 := Lib.hid hb3
    have HG1 := Lib.hid hg1
    have hs1 : w.heap.size + 3 ≤ W1.heap.size := by have := hb3.lt; omega
    clear hb0 hb1 hb3 hg1
    have HF := Lib.hid fun W (g : Grows W1 W) => facts25 (HB0.out.grows g) (HB1.out.grows g) (HB3.out.grows g)
    obtain ⟨⟨a0, a1, a2, a3⟩, ⟨b0, b1, b2, b3, b4⟩, ⟨c0, c1, c2, c3⟩, ⟨d0, d1, d2, d3⟩, hl0, hl1, hl3⟩ := HF.out _ (Grows.refl W1)
    go_wp2_with (first | (go_at_call 11; (go_must (with_reducible refine (HR.out _ HG1.out).mono ?_)); rintro e w1 ⟨rfl, hgW⟩; obtain ⟨⟨a0, a1, a2, a3⟩, ⟨b0, b1, b2, b3, b4⟩, ⟨c0, c1, c2, c3⟩, ⟨d0, d1, d2, d3⟩, hl0, hl1, hl3⟩ := HF.out _ hgW) | (go_at_call 22; (go_must (with_reducible refine (HP.out _ (HG1.out.trans hgW)).mono ?_)); rintro e w2 ⟨v2, rfl, hv2, hg2⟩; replace hgW := hgW.trans hg2; obtain ⟨va, vc, rfl, -, -⟩ := hv2.shape HPN.out; obtain ⟨⟨a0, a1, a2, a3⟩, ⟨b0, b1, b2, b3, b4⟩, ⟨c0, c1, c2, c3⟩, ⟨d0, d1, d2, d3⟩, hl0, hl1, hl3⟩ := HF.out _ hgW) | (go_at_call 42; (go_must (with_reducible refine (has_any _ _ _ _ hv2).mono ?_)); rintro e w3 ⟨rfl, rfl⟩))
    all_goals (try (exfalso; omega))
    all_goals
      refine ret_cell_tmp (t := 25) (n := w.heap.size + 1 + 1) (cs := #[.int .i64 0, .int .i64 0, .slice none 0 0, .slice none 0 0]) rfl rfl rfl ?_ Try.underlying25 rfl (by kernel_rfl) rfl ?_
      · exact (HB3.out.grows hgW).set4
      · exact EdResI.zero (Grows.set4 (HG1.out.trans hgW) (by omega) _ _ _ _) _
set_option maxRecDepth 100000 in
set_option maxHeartbeats 4000000 in
theorem want_split_full {S : Nat → Prop} (L : Lay) (xk xa xp xw xn pane : Int) (hr : rightL L = true) (k3 : (kindE0 xk == 3) = false) (k0 : (kindE0 xk == 0) = true) (hp : pane ∈ panesL L) (hw : (xw == 2) = true ∨ ((xw == 2) = false ∧ (xw == 3) = true)) (h1 : ¬ xn < 0) (h2 : ¬ 999 < xn) (h3 : xn ∉ panesL L) (h4 : (panesL L).length = 16) (vk vw : Value) (w : World) (_hS : ∀ b, w.heap.size ≤ b → S b) (h : LayAt S w L vk vw) : Calls Try.prog 25 #[.agg #[.int .i64 L.kind, .int .i64 L.pane, vk, vw], .agg #[.int .i64 xk, .int .i64 xa, .int .i64 xp, .int .i64 xw, .int .i64 xn], .int .i64 pane] w (fun e w' => EdResI S w w' (zeroL, 7) e) := by
  have g3 : ((IntKind.u64.wrap xk).tmod 5 == 3) = false := k3
  have g0 : ((IntKind.u64.wrap xk).tmod 5 == 0) = true := k0
  have q0 : decide (pane ∈ panesL L) = true := decide_eq_true hp
  have q1 : decide (xn ∈ panesL L) = false := decide_eq_false h3
  obtain ⟨hok, hn, hnd⟩ := right_ok hr
  have HR := Lib.hid fun W (g : Grows w W) => right_any L _ _ W (h.grows g)
  rw [hr] at HR
  have HP := Lib.hid fun W (g : Grows w W) => rpanes_any L (by omega) _ _ W (h.grows g)
  obtain ⟨ka, kc, e1, -⟩ := h.kids.shape rfl
  obtain ⟨wa, wc, e2, -⟩ := h.ints.shape rfl
  subst e1 e2
  obtain ⟨pn, hpn⟩ : ∃ z, (panesL L).length = z := ⟨_, rfl⟩
  have HPN := Lib.hid hpn
  have q2 : ((pn : Int) == 16) = true := by simp; omega
  clear h4 h _hS hr hok hn hnd hpn hp h3
  generalize L.kids.length = kn at *
  generalize L.ws.length = wn at *
  rcases hw with v2 | ⟨v2, v3⟩
  all_goals
    go_enter Try.func25, Try.ntmps25
    go_upto_region 1 with fail
    refine abs_worldM (fun W' => Grows w W' ∧ Blk W' w.heap.size 25 #[.int .i64 L.kind, .int .i64 L.pane, .slice ka kn kc, .slice wa wn wc] ∧ Blk W' (w.heap.size + 1) 54 #[.int .i64 xk, .int .i64 xa, .int .i64 xp, .int .i64 xw, .int .i64 xn] ∧ Blk W' (w.heap.size + 1 + 1) 25 #[.int .i64 0, .int .i64 0, .slice none 0 0, .slice none 0 0]) (boxes3 _ _ _ _) ?_
    rintro W1 ⟨hg1, hb0, hb1, hb3⟩
    have HB0 := Lib.hid hb0
    have HB1 := Lib.hid hb1
    have HB3 := Lib.hid hb3
    have HG1 := Lib.hid hg1
    have hs1 : w.heap.size + 3 ≤ W1.heap.size := by have := hb3.lt; omega
    clear hb0 hb1 hb3 hg1
    have HF := Lib.hid fun W (g : Grows W1 W) => facts25 (HB0.out.grows g) (HB1.out.grows g) (HB3.out.grows g)
    obtain ⟨⟨a0, a1, a2, a3⟩, ⟨b0, b1, b2, b3, b4⟩, ⟨c0, c1, c2, c3⟩, ⟨d0, d1, d2, d3⟩, hl0, hl1, hl3⟩ := HF.out _ (Grows.refl W1)
    go_wp2_with (first | (go_at_call 11; (go_must (with_reducible refine (HR.out _ HG1.out).mono ?_)); rintro e w1 ⟨rfl, hgW⟩; obtain ⟨⟨a0, a1, a2, a3⟩, ⟨b0, b1, b2, b3, b4⟩, ⟨c0, c1, c2, c3⟩, ⟨d0, d1, d2, d3⟩, hl0, hl1, hl3⟩ := HF.out _ hgW) | (go_at_call 22; (go_must (with_reducible refine (HP.out _ (HG1.out.trans hgW)).mono ?_)); rintro e w2 ⟨v2, rfl, hv2, hg2⟩; replace hgW := hgW.trans hg2; obtain ⟨va, vc, rfl, -, -⟩ := hv2.shape HPN.out; obtain ⟨⟨a0, a1, a2, a3⟩, ⟨b0, b1, b2, b3, b4⟩, ⟨c0, c1, c2, c3⟩, ⟨d0, d1, d2, d3⟩, hl0, hl1, hl3⟩ := HF.out _ hgW) | (go_at_call 42; (go_must (with_reducible refine (has_any _ _ _ _ hv2).mono ?_)); rintro e w3 ⟨rfl, rfl⟩))
    all_goals (try (exfalso; omega))
    all_goals
      refine ret_cell_tmp (t := 25) (n := w.heap.size + 1 + 1) (cs := #[.int .i64 0, .int .i64 0, .slice none 0 0, .slice none 0 0]) rfl rfl rfl ?_ Try.underlying25 rfl (by kernel_rfl) rfl ?_
      · exact (HB3.out.grows hgW).set4
      · exact EdResI.zero (Grows.set4 (HG1.out.trans hgW) (by omega) _ _ _ _) _
set_option maxRecDepth 100000 in
set_option maxHeartbeats 4000000 in
theorem want_close_last {S : Nat → Prop} (L : Lay) (xk xa xp xw xn pane : Int) (hr : rightL L = true) (k3 : (kindE0 xk == 3) = false) (k0 : (kindE0 xk == 0) = false) (k1 : (kindE0 xk == 1) = true) (hp : pane ∈ panesL L) (h4 : (panesL L).length = 1) (vk vw : Value) (w : World) (_hS : ∀ b, w.heap.size ≤ b → S b) (h : LayAt S w L vk vw) : Calls Try.prog 25 #[.agg #[.int .i64 L.kind, .int .i64 L.pane, vk, vw], .agg #[.int .i64 xk, .int .i64 xa, .int .i64 xp, .int .i64 xw, .int .i64 xn], .int .i64 pane] w (fun e w' => EdResI S w w' (zeroL, 7) e) := by
  have g3 : ((IntKind.u64.wrap xk).tmod 5 == 3) = false := k3
  have g0 : ((IntKind.u64.wrap xk).tmod 5 == 0) = false := k0
  have g1 : ((IntKind.u64.wrap xk).tmod 5 == 1) = true := k1
  have q0 : decide (pane ∈ panesL L) = true := decide_eq_true hp
  obtain ⟨hok, hn, hnd⟩ := right_ok hr
  have HR := Lib.hid fun W (g : Grows w W) => right_any L _ _ W (h.grows g)
  rw [hr] at HR
  have HP := Lib.hid fun W (g : Grows w W) => rpanes_any L (by omega) _ _ W (h.grows g)
  obtain ⟨ka, kc, e1, -⟩ := h.kids.shape rfl
  obtain ⟨wa, wc, e2, -⟩ := h.ints.shape rfl
  subst e1 e2
  obtain ⟨pn, hpn⟩ : ∃ z, (panesL L).length = z := ⟨_, rfl⟩
  have HPN := Lib.hid hpn
  have q2 : ((pn : Int) == 1) = true := by simp; omega
  clear h4 h _hS hr hok hn hnd hpn hp
  generalize L.kids.length = kn at *
  generalize L.ws.length = wn at *
  go_enter Try.func25, Try.ntmps25
  go_upto_region 1 with fail
  refine abs_worldM (fun W' => Grows w W' ∧ Blk W' w.heap.size 25 #[.int .i64 L.kind, .int .i64 L.pane, .slice ka kn kc, .slice wa wn wc] ∧ Blk W' (w.heap.size + 1) 54 #[.int .i64 xk, .int .i64 xa, .int .i64 xp, .int .i64 xw, .int .i64 xn] ∧ Blk W' (w.heap.size + 1 + 1) 25 #[.int .i64 0, .int .i64 0, .slice none 0 0, .slice none 0 0]) (boxes3 _ _ _ _) ?_
  rintro W1 ⟨hg1, hb0, hb1, hb3⟩
  have HB0 := Lib.hid hb0
  have HB1 := Lib.hid hb1
  have HB3 := Lib.hid hb3
  have HG1 := Lib.hid hg1
  have hs1 : w.heap.size + 3 ≤ W1.heap.size := by have := hb3.lt; omega
  clear hb0 hb1 hb3 hg1
  have HF := Lib.hid fun W (g : Grows W1 W) => facts25 (HB0.out.grows g) (HB1.out.grows g) (HB3.out.grows g)
  obtain ⟨⟨a0, a1, a2, a3⟩, ⟨b0, b1, b2, b3, b4⟩, ⟨c0, c1, c2, c3⟩, ⟨d0, d1, d2, d3⟩, hl0, hl1, hl3⟩ := HF.out _ (Grows.refl W1)
  go_wp2_with (first | (go_at_call 11; (go_must (with_reducible refine (HR.out _ HG1.out).mono ?_)); rintro e w1 ⟨rfl, hgW⟩; obtain ⟨⟨a0, a1, a2, a3⟩, ⟨b0, b1, b2, b3, b4⟩, ⟨c0, c1, c2, c3⟩, ⟨d0, d1, d2, d3⟩, hl0, hl1, hl3⟩ := HF.out _ hgW) | (go_at_call 22; (go_must (with_reducible refine (HP.out _ (HG1.out.trans hgW)).mono ?_)); rintro e w2 ⟨v2, rfl, hv2, hg2⟩; replace hgW := hgW.trans hg2; obtain ⟨va, vc, rfl, -, -⟩ := hv2.shape HPN.out; obtain ⟨⟨a0, a1, a2, a3⟩, ⟨b0, b1, b2, b3, b4⟩, ⟨c0, c1, c2, c3⟩, ⟨d0, d1, d2, d3⟩, hl0, hl1, hl3⟩ := HF.out _ hgW) | (go_at_call 42; (go_must (with_reducible refine (has_any _ _ _ _ hv2).mono ?_)); rintro e w3 ⟨rfl, rfl⟩))
  all_goals (try (exfalso; omega))
  all_goals
    refine ret_cell_tmp (t := 25) (n := w.heap.size + 1 + 1) (cs := #[.int .i64 0, .int .i64 0, .slice none 0 0, .slice none 0 0]) rfl rfl rfl ?_ Try.underlying25 rfl (by kernel_rfl) rfl ?_
    · exact (HB3.out.grows hgW).set4
    · exact EdResI.zero (Grows.set4 (HG1.out.trans hgW) (by omega) _ _ _ _) _
set_option maxRecDepth 100000 in
set_option maxHeartbeats 4000000 in
theorem want_swap_no {S : Nat → Prop} (L : Lay) (xk xa xp xw xn pane : Int) (hr : rightL L = true) (k3 : (kindE0 xk == 3) = false) (k0 : (kindE0 xk == 0) = false) (k1 : (kindE0 xk == 1) = false) (k2 : (kindE0 xk == 2) = false) (hp : pane ∈ panesL L) (h3 : xn ∉ panesL L) (vk vw : Value) (w : World) (_hS : ∀ b, w.heap.size ≤ b → S b) (h : LayAt S w L vk vw) : Calls Try.prog 25 #[.agg #[.int .i64 L.kind, .int .i64 L.pane, vk, vw], .agg #[.int .i64 xk, .int .i64 xa, .int .i64 xp, .int .i64 xw, .int .i64 xn], .int .i64 pane] w (fun e w' => EdResI S w w' (zeroL, 441) e) := by
  have g3 : ((IntKind.u64.wrap xk).tmod 5 == 3) = false := k3
  have g0 : ((IntKind.u64.wrap xk).tmod 5 == 0) = false := k0
  have g1 : ((IntKind.u64.wrap xk).tmod 5 == 1) = false := k1
  have g2 : ((IntKind.u64.wrap xk).tmod 5 == 2) = false := k2
  have q0 : decide (pane ∈ panesL L) = true := decide_eq_true hp
  have q1 : decide (xn ∈ panesL L) = false := decide_eq_false h3
  obtain ⟨hok, hn, hnd⟩ := right_ok hr
  have HR := Lib.hid fun W (g : Grows w W) => right_any L _ _ W (h.grows g)
  rw [hr] at HR
  have HP := Lib.hid fun W (g : Grows w W) => rpanes_any L (by omega) _ _ W (h.grows g)
  obtain ⟨ka, kc, e1, -⟩ := h.kids.shape rfl
  obtain ⟨wa, wc, e2, -⟩ := h.ints.shape rfl
  subst e1 e2
  obtain ⟨pn, hpn⟩ : ∃ z, (panesL L).length = z := ⟨_, rfl⟩
  have HPN := Lib.hid hpn
  clear h _hS hr hok hn hnd hpn hp h3
  generalize L.kids.length = kn at *
  generalize L.ws.length = wn at *
  go_enter Try.func25, Try.ntmps25
  go_upto_region 1 with fail
  refine abs_worldM (fun W' => Grows w W' ∧ Blk W' w.heap.size 25 #[.int .i64 L.kind, .int .i64 L.pane, .slice ka kn kc, .slice wa wn wc] ∧ Blk W' (w.heap.size + 1) 54 #[.int .i64 xk, .int .i64 xa, .int .i64 xp, .int .i64 xw, .int .i64 xn] ∧ Blk W' (w.heap.size + 1 + 1) 25 #[.int .i64 0, .int .i64 0, .slice none 0 0, .slice none 0 0]) (boxes3 _ _ _ _) ?_
  rintro W1 ⟨hg1, hb0, hb1, hb3⟩
  have HB0 := Lib.hid hb0
  have HB1 := Lib.hid hb1
  have HB3 := Lib.hid hb3
  have HG1 := Lib.hid hg1
  have hs1 : w.heap.size + 3 ≤ W1.heap.size := by have := hb3.lt; omega
  clear hb0 hb1 hb3 hg1
  have HF := Lib.hid fun W (g : Grows W1 W) => facts25 (HB0.out.grows g) (HB1.out.grows g) (HB3.out.grows g)
  obtain ⟨⟨a0, a1, a2, a3⟩, ⟨b0, b1, b2, b3, b4⟩, ⟨c0, c1, c2, c3⟩, ⟨d0, d1, d2, d3⟩, hl0, hl1, hl3⟩ := HF.out _ (Grows.refl W1)
  go_wp2_with (first | (go_at_call 11; (go_must (with_reducible refine (HR.out _ HG1.out).mono ?_)); rintro e w1 ⟨rfl, hgW⟩; obtain ⟨⟨a0, a1, a2, a3⟩, ⟨b0, b1, b2, b3, b4⟩, ⟨c0, c1, c2, c3⟩, ⟨d0, d1, d2, d3⟩, hl0, hl1, hl3⟩ := HF.out _ hgW) | (go_at_call 22; (go_must (with_reducible refine (HP.out _ (HG1.out.trans hgW)).mono ?_)); rintro e w2 ⟨v2, rfl, hv2, hg2⟩; replace hgW := hgW.trans hg2; obtain ⟨va, vc, rfl, -, -⟩ := hv2.shape HPN.out; obtain ⟨⟨a0, a1, a2, a3⟩, ⟨b0, b1, b2, b3, b4⟩, ⟨c0, c1, c2, c3⟩, ⟨d0, d1, d2, d3⟩, hl0, hl1, hl3⟩ := HF.out _ hgW) | (go_at_call 42; (go_must (with_reducible refine (has_any _ _ _ _ hv2).mono ?_)); rintro e w3 ⟨rfl, rfl⟩))
  all_goals (try (exfalso; omega))
  all_goals
    refine ret_cell_tmp (t := 25) (n := w.heap.size + 1 + 1) (cs := #[.int .i64 0, .int .i64 0, .slice none 0 0, .slice none 0 0]) rfl rfl rfl ?_ Try.underlying25 rfl (by kernel_rfl) rfl ?_
    · exact (HB3.out.grows hgW).set4
    · exact EdResI.zero (Grows.set4 (HG1.out.trans hgW) (by omega) _ _ _ _) _
end Go.Proofs.Ytbobpgegkmcapaa

