/-
  Walks: Split, its good case.
-/
import Derived.Test.YtbobpgegkmcapaaRows
import Derived.Test.YtbobpgegkmcapaaE1
import Derived.Test.YtbobpgegkmcapaaE2
import Derived.Test.YtbobpgegkmcapaaE3
import Derived.Test.YtbobpgegkmcapaaE5
import Derived.Test.YtbobpgegkmcapaaE8
import Derived.Test.YtbobpgegkmcapaaE9
import Derived.Test.YtbobpgegkmcapaaE10
import Derived.WalkKit
import Derived.WalkSpells
import Derived.WalkLawsBesides
import Derived.Handy
import Derived.Laws.Rows
import Derived.Great.BuildSlice
import Derived.Deep.Heap
import Derived.IntWalk
import Derived.Lib.Hide
import Derived.Outline
import Derived.Deep.Light
import Derived.Deep.LoopGhost
import Derived.BigGuardPart
import Derived.BigQuiet
import Derived.Deep.QuietTactic
import Derived.Deep.RegionHeld3
import Derived.Deep.DeepCutAuto
import Derived.Deep.CutBlock
import Derived.OwnWalk
import Derived.Maps.AppendAt
namespace Go.Proofs.Ytbobpgegkmcapaa
open Go.RowKit

theorem kids_two {S : Nat → Prop} {w : World} {p q : Int} {n : Nat} (hn : w.heap.size = n) (hs : S n) : KidsAt S (w.alloc (.cells #[.int .i64 1, .int .i64 p, .slice none 0 0, .slice none 0 0, .int .i64 1, .int .i64 q, .slice none 0 0, .slice none 0 0] 25)) (.slice (some ⟨n, 0, none⟩) 2 2) [leafL p, leafL q] := by
  subst hn
  have hb : Blk (w.alloc (.cells #[.int .i64 1, .int .i64 p, .slice none 0 0, .slice none 0 0, .int .i64 1, .int .i64 q, .slice none 0 0, .slice none 0 0] 25)) w.heap.size 25 _ := Blk.new rfl
  refine ⟨fun _ => (.slice none 0 0, .slice none 0 0), _, 2, rfl, Nat.le_refl _, Nat.le_trans (show 2 ≤ 3 by decide) (by decide), fun _ => ⟨_, 0, rfl, hb.lt, hs, fun i x hi => ?_⟩, fun i x hi => ?_⟩
  · match i, hi with
    | 0, hi =>
      obtain rfl : leafL p = x := by simpa using hi
      exact ⟨hb.cell 0, hb.cell 1, hb.cell 2, hb.cell 3⟩
    | 1, hi =>
      obtain rfl : leafL q = x := by simpa using hi
      exact ⟨hb.cell 4, hb.cell 5, hb.cell 6, hb.cell 7⟩
  · match i, hi with
    | 0, hi =>
      obtain rfl : leafL p = x := by simpa using hi
      exact leaf_lay _ _ _
    | 1, hi =>
      obtain rfl : leafL q = x := by simpa using hi
      exact leaf_lay _ _ _
theorem ints_two {S : Nat → Prop} {w : World} {x y : Int} {n : Nat} (hn : w.heap.size = n) (hs : S n) : IntsAt S (w.alloc (.cells #[.int .i64 x, .int .i64 y] 3)) (.slice (some ⟨n, 0, none⟩) 2 2) [x, y] := by
  subst hn
  have hb : Blk (w.alloc (.cells #[.int .i64 x, .int .i64 y] 3)) w.heap.size 3 _ := Blk.new rfl
  refine ⟨_, 2, rfl, Nat.le_refl _, Nat.le_trans (show 2 ≤ 3 by decide) (by decide), fun _ => ⟨_, 0, rfl, hb.lt, hs, fun i z hi => ?_⟩⟩
  match i, hi with
  | 0, hi =>
    obtain rfl : x = z := by simpa using hi
    exact hb.two.1
  | 1, hi =>
    obtain rfl : y = z := by simpa using hi
    exact hb.two.2.1
theorem pair_lay {S : Nat → Prop} {w : World} {kind pane fresh : Int} {n1 n2 q : Nat} (h1 : Blk w n1 25 #[.int .i64 1, .int .i64 pane, .slice none 0 0, .slice none 0 0, .int .i64 1, .int .i64 fresh, .slice none 0 0, .slice none 0 0]) (h2 : Blk w n2 3 #[.int .i64 1, .int .i64 1]) (hq : Blk w q 25 #[.int .i64 0, .int .i64 0, .slice none 0 0, .slice none 0 0]) (s1 : S n1) (s2 : S n2) (a b c d : Value) :
    LayAt S ((((w.setCell ⟨q, 0, none⟩ a).setCell ⟨q, 1, none⟩ b).setCell ⟨q, 2, none⟩ c).setCell ⟨q, 3, none⟩ d) (pairL kind pane fresh) (.slice (some ⟨n1, 0, none⟩) 2 2) (.slice (some ⟨n2, 0, none⟩) 2 2) := by
  have e1 : n1 ≠ q := by
    rintro rfl
    have e := Option.some.inj (h1.symm.trans hq)
    injection e with e
    have := congrArg Array.size e
    simp at this
  have e2 : n2 ≠ q := by
    rintro rfl
    have e := Option.some.inj (h2.symm.trans hq)
    injection e with e
    have := congrArg Array.size e
    simp at this
  have b1 := (((h1.other (j := 0) (v := a) e1.symm).other (j := 1) (v := b) e1.symm).other (j := 2) (v := c) e1.symm).other (j := 3) (v := d) e1.symm
  have b2 := (((h2.other (j := 0) (v := a) e2.symm).other (j := 1) (v := b) e2.symm).other (j := 2) (v := c) e2.symm).other (j := 3) (v := d) e2.symm
  refine LayAt_mk.2 ⟨⟨_, 2, rfl, Nat.le_refl _, Nat.le_trans (show 2 ≤ 3 by decide) (by decide), fun _ => ⟨n2, 0, rfl, b2.lt, s2, fun i z hi => ?_⟩⟩, fun _ => (.slice none 0 0, .slice none 0 0), _, 2, rfl, Nat.le_refl _, Nat.le_trans (show 2 ≤ 3 by decide) (by decide), fun _ => ⟨n1, 0, rfl, b1.lt, s1, fun i x hi => ?_⟩, fun i x hi => ?_⟩
  · match i, hi with
    | 0, hi =>
      obtain rfl : 1 = z := by simpa using hi
      exact b2.two.1
    | 1, hi =>
      obtain rfl : 1 = z := by simpa using hi
      exact b2.two.2.1
  · match i, hi with
    | 0, hi =>
      obtain rfl : leafL pane = x := by simpa using hi
      exact ⟨b1.cell 0, b1.cell 1, b1.cell 2, b1.cell 3⟩
    | 1, hi =>
      obtain rfl : leafL fresh = x := by simpa using hi
      exact ⟨b1.cell 4, b1.cell 5, b1.cell 6, b1.cell 7⟩
  · match i, hi with
    | 0, hi =>
      obtain rfl : leafL pane = x := by simpa using hi
      exact leaf_lay _ _ _
    | 1, hi =>
      obtain rfl : leafL fresh = x := by simpa using hi
      exact leaf_lay _ _ _
set_option maxRecDepth 100000 in
set_option maxHeartbeats 4000000 in
theorem split_ok {S : Nat → Prop} (L : Lay) (pane kind fresh : Int) (hr : rightL L = true) (hp : pane ∈ panesL L) (hk : kind = 2 ∨ kind = 3) (h1 : ¬ fresh < 0) (h2 : ¬ 999 < fresh) (h3 : fresh ∉ panesL L) (h4 : (panesL L).length ≠ 16) (y : Lay) (t : Bool) (hq : replL (splitE kind fresh pane) pane L = (y, t)) (vk vw : Value) (w : World) (hS : ∀ b, w.heap.size ≤ b → S b) (h : LayAt S w L vk vw) : Calls Try.prog 33 #[.agg #[.int .i64 L.kind, .int .i64 L.pane, vk, vw], .int .i64 pane, .int .i64 kind, .int .i64 fresh] w (fun e w' => EdResI S w w' ((if t = true then y else pairL kind pane fresh), 0) e) := by
  obtain ⟨hok, hn, -⟩ := right_ok hr
  have hc := chk_yes hr
  obtain ⟨ka, kc, e1, -⟩ := h.kids.shape rfl
  obtain ⟨wa, wc, e2, -⟩ := h.ints.shape rfl
  subst e1 e2
  have HC := Lib.hid fun W (g : Grows w W) => checked (h.grows g)
  rw [hc] at HC
  have HP := Lib.hid fun W (g : Grows w W) => panes_any L hok (by omega) _ _ W (h.grows g)
  have HP := Lib.hid fun W (g : Grows w W) => panesP_yes L hr _ _ W (h.grows g)
  have HSP := Lib.hid fun W => (show Calls Try.prog 56 #[.int .i64 kind] W (Ret (.bool true) W) by
    have := isSplit_any kind W
    rwa [show (decide (kind = 2) || decide (kind = 3)) = true by simpa using hk] at this)
  have HS := Lib.hid hS
  have HX := Lib.hid (h.exc (m := w.heap.size + 1 + 1 + 1) (by omega))
  have HRP := Lib.hid fun v3 => replace_64 (splitE kind fresh pane) pane (.pointer (some ⟨w.heap.size + 1, 0, none⟩)) (.pointer (some ⟨w.heap.size + 1 + 1, 0, none⟩)) v3 L hok (by omega)
  rw [hq] at HRP
  obtain ⟨pn, hpn⟩ : ∃ z, (panesL L).length = z := ⟨_, rfl⟩
  have e16 : ((pn : Int) == 16) = false := by simp; omega
  have HPN := Lib.hid hpn
  clear h hok hn hc hr hk hS hq hpn h4
  generalize L.kids.length = kn at *
  generalize L.ws.length = wn at *
  generalize panesL L = pl at *
  go_enter Try.func33, Try.ntmps33
  go_upto_region 1 with fail
  refine abs_worldM (fun W' => Grows w W' ∧ Blk W' w.heap.size 25 #[.int .i64 L.kind, .int .i64 L.pane, .slice ka kn kc, .slice wa wn wc] ∧ Blk W' (w.heap.size + 1) 3 #[.int .i64 kind] ∧ Blk W' (w.heap.size + 1 + 1) 3 #[.int .i64 fresh] ∧ Blk W' (w.heap.size + 1 + 1 + 1) 25 #[.int .i64 0, .int .i64 0, .slice none 0 0, .slice none 0 0]) (boxes4 _ _ _ _ _) ?_
  rintro W1 ⟨hg1, hb0, hb1, hb2, hb3⟩
  obtain ⟨a0, a1, a2, a3⟩ := hb0.four
  obtain ⟨k0, -⟩ := hb1.one
  obtain ⟨k1, -⟩ := hb2.one
  obtain ⟨b0, b1, b2, b3⟩ := hb3.four
  obtain ⟨d0, d1, d2, d3⟩ := hb3.four'
  have hl0 := hb0.lt
  have hl1 := hb1.lt
  have hl2 := hb2.lt
  have hl3 := hb3.lt
  have HB0 := Lib.hid hb0
  have HB1 := Lib.hid hb1
  have HB2 := Lib.hid hb2
  have HB3 := Lib.hid hb3
  have HG1 := Lib.hid hg1
  clear hb0 hb1 hb2 hb3 hg1
  have hs0 := HG1.out.size
  have HGQ := HG1
  have HR := Lib.hid fun W v3 (g : Grows W1 W) (hE : EdAt64 (.pointer (some ⟨w.heap.size + 1, 0, none⟩)) (.pointer (some ⟨w.heap.size + 1 + 1, 0, none⟩)) v3 (Exc (w.heap.size + 1 + 1 + 1) S) W (splitE kind fresh pane)) => HRP.out v3 (Exc (w.heap.size + 1 + 1 + 1) S) _ _ W (exc_fresh HS.out (by have := g.size; omega) (by have := g.size; omega)) (HX.out.grows (HGQ.out.trans g)) hE
  go_upto_region 10 with (first | (go_at_call 20; (go_must (with_reducible refine (HP.out _ (HG1.out.trans (by repeat' (first | (with_reducible exact hgW) | (with_reducible exact Grows.refl _) | (with_reducible refine Grows.alloc ?_ _) | (with_reducible refine Grows.drew ?_) | (with_reducible refine Grows.ext ?_ _ _))))).mono ?_)); rintro e w2 ⟨v2, rfl, hv2, hg2⟩; have hgW : Grows W1 w2 := Grows.trans (by repeat' (first | (with_reducible exact hgW) | (with_reducible exact Grows.refl _) | (with_reducible refine Grows.alloc ?_ _) | (with_reducible refine Grows.drew ?_) | (with_reducible refine Grows.ext ?_ _ _))) hg2; obtain ⟨a0, a1, a2, a3⟩ := (HB0.out.grows hgW).four; obtain ⟨k0, -⟩ := (HB1.out.grows hgW).one; obtain ⟨k1, -⟩ := (HB2.out.grows hgW).one; obtain ⟨b0, b1, b2, b3⟩ := (HB3.out.grows hgW).four; obtain ⟨d0, d1, d2, d3⟩ := (HB3.out.grows hgW).four'; have hl0 := (HB0.out.grows hgW).lt; have hl1 := (HB1.out.grows hgW).lt; have hl2 := (HB2.out.grows hgW).lt; have hl3 := (HB3.out.grows hgW).lt; obtain ⟨va, vc, rfl, hvc, -⟩ := hv2.shape HPN.out) | (go_at_call 16; (go_must (with_reducible refine (HC.out _ (HG1.out.trans (by repeat' (first | (with_reducible exact hgW) | (with_reducible exact Grows.refl _) | (with_reducible refine Grows.alloc ?_ _) | (with_reducible refine Grows.drew ?_) | (with_reducible refine Grows.ext ?_ _ _))))).mono ?_)); rintro e w3 ⟨rfl, hg3⟩; have hv3 := hv2.grows (Grows.trans (by repeat' (first | (with_reducible exact Grows.refl _) | (with_reducible refine Grows.alloc ?_ _) | (with_reducible refine Grows.drew ?_) | (with_reducible refine Grows.ext ?_ _ _))) hg3); have hgW2 := hgW; clear hgW; have hgW : Grows W1 w3 := hgW2.trans (Grows.trans (by repeat' (first | (with_reducible exact Grows.refl _) | (with_reducible refine Grows.alloc ?_ _) | (with_reducible refine Grows.drew ?_) | (with_reducible refine Grows.ext ?_ _ _))) hg3); obtain ⟨a0, a1, a2, a3⟩ := (HB0.out.grows hgW).four; obtain ⟨k0, -⟩ := (HB1.out.grows hgW).one; obtain ⟨k1, -⟩ := (HB2.out.grows hgW).one; obtain ⟨b0, b1, b2, b3⟩ := (HB3.out.grows hgW).four; obtain ⟨d0, d1, d2, d3⟩ := (HB3.out.grows hgW).four'; have hl0 := (HB0.out.grows hgW).lt; have hl1 := (HB1.out.grows hgW).lt; have hl2 := (HB2.out.grows hgW).lt; have hl3 := (HB3.out.grows hgW).lt) | (go_at_call 55; (go_must (with_reducible refine (contains_any _ _ _ _ (hv3.grows (by repeat' (first | (with_reducible exact Grows.refl _) | (with_reducible refine Grows.alloc ?_ _) | (with_reducible refine Grows.drew ?_) | (with_reducible refine Grows.ext ?_ _ _))))).mono ?_)); rintro e w4 ⟨rfl, rfl⟩) | (go_at_call 56; (go_must (with_reducible refine (HSP.out _).mono ?_)); rintro e w5 ⟨rfl, hg5⟩; have hv4 := hv3.grows (Grows.trans (by repeat' (first | (with_reducible exact Grows.refl _) | (with_reducible refine Grows.alloc ?_ _) | (with_reducible refine Grows.drew ?_) | (with_reducible refine Grows.ext ?_ _ _))) hg5); clear hv3; have hv3 := hv4; clear hv4; have hgW3 := hgW; clear hgW; have hgW : Grows W1 w5 := hgW3.trans (Grows.trans (by repeat' (first | (with_reducible exact Grows.refl _) | (with_reducible refine Grows.alloc ?_ _) | (with_reducible refine Grows.drew ?_) | (with_reducible refine Grows.ext ?_ _ _))) hg5); obtain ⟨a0, a1, a2, a3⟩ := (HB0.out.grows hgW).four; obtain ⟨k0, -⟩ := (HB1.out.grows hgW).one; obtain ⟨k1, -⟩ := (HB2.out.grows hgW).one; obtain ⟨b0, b1, b2, b3⟩ := (HB3.out.grows hgW).four; obtain ⟨d0, d1, d2, d3⟩ := (HB3.out.grows hgW).four'; have hl0 := (HB0.out.grows hgW).lt; have hl1 := (HB1.out.grows hgW).lt; have hl2 := (HB2.out.grows hgW).lt; have hl3 := (HB3.out.grows hgW).lt))
  all_goals (try (exfalso; omega))
  refine abs_worldM (fun W' => Grows W1 W') (hgW.trans (by repeat' (first | (with_reducible exact Grows.refl _) | (with_reducible refine Grows.alloc ?_ _) | (with_reducible refine Grows.drew ?_) | (with_reducible refine Grows.ext ?_ _ _)))) ?_
  rintro W2 hgW2
  have HGw := HG1
  clear HG1 hgW
  have HG1 := Lib.hid hgW2
  have hs2 := hgW2.size
  clear hv3 hv2 hgW2
  go_cut [11] (fun v11 wx => ∃ (q : Nat) (vkp vwp : Value), v11 = .pointer (some ⟨q, 0, none⟩) ∧ Grows W2 wx ∧ Blk wx q 25 #[.int .i64 kind, .int .i64 0, vkp, vwp] ∧ LayAt (Exc (w.heap.size + 1 + 1 + 1) S) wx (pairL kind pane fresh) vkp vwp)
  case first =>
    have hgS := Grows.refl W2
    refine wp_region_B [9] (fun w' => Grows W1 w') (fun w' => Grows W2 w') (by kernel_rfl) ⟨(HG1.out.trans (by exact hgS.trans (by repeat' (first | (with_reducible exact hgc) | (with_reducible exact Grows.refl _) | (with_reducible refine Grows.alloc ?_ _) | (with_reducible refine Grows.drew ?_) | (with_reducible refine Grows.ext ?_ _ _))))), (by exact hgS.trans (by repeat' (first | (with_reducible exact hgc) | (with_reducible exact Grows.refl _) | (with_reducible refine Grows.alloc ?_ _) | (with_reducible refine Grows.drew ?_) | (with_reducible refine Grows.ext ?_ _ _))))⟩ (fun hHeld => ?_)
    refine abs_anyB (fun W' => Grows W2 W' ∧ True) ⟨(by repeat' (first | (with_reducible exact hgc) | (with_reducible exact Grows.refl _) | (with_reducible refine Grows.alloc ?_ _) | (with_reducible refine Grows.drew ?_) | (with_reducible refine Grows.ext ?_ _ _))), trivial⟩ ?_
    clear hHeld
    rintro X139 ⟨hgn, hex⟩
    have hgS := hgS.trans hgn
    have hsS := hgS.size
    clear hgn hex
    have hHeld := And.intro (HG1.out.trans hgS) hgS
    refine anyB_takeT (i := 0) (v := ?v140_0) rfl (by kernel_rfl) (by kernel_rfl) (by kernel_rfl) (by kernel_rfl) (fun _ _ _ h => h) (Or.inl ⟨by kernel_rfl, ?y140_0⟩) hHeld.1 (fun _ => hHeld.2) ?r140_0
    case y140_0 => ((intro w hTw; have k0 := (HB1.out.grows hTw).one.1; have k1 := (HB2.out.grows hTw).one.1; have hl1 := (HB1.out.grows hTw).lt; have hl2 := (HB2.out.grows hTw).lt; clear hTw; go_simp); (try go_ints); (try with_reducible rfl))
    try simp only [Act.put, List.getElem_toArray, List.getElem_cons_zero, List.setIfInBounds_toArray, List.set_cons_zero, List.set_cons_succ]
    refine anyB_takeT (i := 1) (v := ?v141_1) rfl (by kernel_rfl) (by kernel_rfl) (by kernel_rfl) (by kernel_rfl) (fun _ _ _ h => h) (Or.inl ⟨by kernel_rfl, ?y141_1⟩) hHeld.1 (fun _ => hHeld.2) ?r141_1
    case y141_1 => ((intro w hTw; have k0 := (HB1.out.grows hTw).one.1; have k1 := (HB2.out.grows hTw).one.1; have hl1 := (HB1.out.grows hTw).lt; have hl2 := (HB2.out.grows hTw).lt; clear hTw; go_simp); (try go_ints); (try with_reducible rfl))
    try simp only [Act.put, List.getElem_toArray, List.getElem_cons_succ, List.getElem_cons_zero, List.setIfInBounds_toArray, List.set_cons_zero, List.set_cons_succ]
    refine anyB_takeT (i := 3) (v := ?v142_3) rfl (by kernel_rfl) (by kernel_rfl) (by kernel_rfl) (by kernel_rfl) (fun _ _ _ h => h) (Or.inl ⟨by kernel_rfl, ?y142_3⟩) hHeld.1 (fun _ => hHeld.2) ?r142_3
    case y142_3 => ((intro w hTw; have k0 := (HB1.out.grows hTw).one.1; have k1 := (HB2.out.grows hTw).one.1; have hl1 := (HB1.out.grows hTw).lt; have hl2 := (HB2.out.grows hTw).lt; clear hTw; go_simp); (try go_ints); (try with_reducible rfl))
    try simp only [Act.put, List.getElem_toArray, List.getElem_cons_succ, List.getElem_cons_zero, List.setIfInBounds_toArray, List.set_cons_zero, List.set_cons_succ]
    refine anyB_ready3 (i := 2) (j := 6) (k := 8) (by kernel_rfl) rfl rfl rfl (fun K hK => ?_) (fun K hK => ?_) (fun K hK => ?_)
    · simp only [List.getElem_toArray, List.getElem_cons_succ, List.getElem_cons_zero]
      go_simp
      (go_at_call 63; (with_reducible refine (leaf_any _ _).mono ?_); rintro e w6 ⟨rfl, h6, d6, rfl⟩)
      refine hK.out _ _ ⟨?_, ?_⟩ ?_
      · ((try dsimp only); exact HG1.out.trans (hgS.trans (by repeat' (first | (with_reducible exact hgc) | (with_reducible exact Grows.refl _) | (with_reducible refine Grows.alloc ?_ _) | (with_reducible refine Grows.drew ?_) | (with_reducible refine Grows.ext ?_ _ _)))))
      · ((try dsimp only); exact hgS.trans (by repeat' (first | (with_reducible exact hgc) | (with_reducible exact Grows.refl _) | (with_reducible refine Grows.alloc ?_ _) | (with_reducible refine Grows.drew ?_) | (with_reducible refine Grows.ext ?_ _ _))))
      clear hK K hHeld
      intro hHeld
      try simp only [Act.put, List.getElem_toArray, List.getElem_cons_succ, List.getElem_cons_zero, List.setIfInBounds_toArray, List.set_cons_zero, List.set_cons_succ]
      refine abs_anyB (fun W' => Grows X139 W' ∧ True) ⟨(by repeat' (first | (with_reducible exact hgc) | (with_reducible exact Grows.refl _) | (with_reducible refine Grows.alloc ?_ _) | (with_reducible refine Grows.drew ?_) | (with_reducible refine Grows.ext ?_ _ _))), trivial⟩ ?_
      clear hHeld
      rintro X143 ⟨hgn, hex⟩
      have hgS := hgS.trans hgn
      have hsS := hgS.size
      clear hgn hex
      have hHeld := And.intro (HG1.out.trans hgS) hgS
      refine anyB_ready3 (i := 4) (j := 6) (k := 8) (by kernel_rfl) rfl rfl rfl (fun K hK => ?_) (fun K hK => ?_) (fun K hK => ?_)
      · simp only [List.getElem_toArray, List.getElem_cons_succ, List.getElem_cons_zero]
        go_simp
        (go_at_call 63; (with_reducible refine (leaf_any _ _).mono ?_); rintro e w6 ⟨rfl, h6, d6, rfl⟩)
        refine hK.out _ _ ⟨?_, ?_⟩ ?_
        · ((try dsimp only); exact HG1.out.trans (hgS.trans (by repeat' (first | (with_reducible exact hgc) | (with_reducible exact Grows.refl _) | (with_reducible refine Grows.alloc ?_ _) | (with_reducible refine Grows.drew ?_) | (with_reducible refine Grows.ext ?_ _ _)))))
        · ((try dsimp only); exact hgS.trans (by repeat' (first | (with_reducible exact hgc) | (with_reducible exact Grows.refl _) | (with_reducible refine Grows.alloc ?_ _) | (with_reducible refine Grows.drew ?_) | (with_reducible refine Grows.ext ?_ _ _))))
        clear hK K hHeld
        intro hHeld
        try simp only [Act.put, List.getElem_toArray, List.getElem_cons_succ, List.getElem_cons_zero, List.setIfInBounds_toArray, List.set_cons_zero, List.set_cons_succ]
        refine abs_anyB (fun W' => Grows X143 W' ∧ True) ⟨(by repeat' (first | (with_reducible exact hgc) | (with_reducible exact Grows.refl _) | (with_reducible refine Grows.alloc ?_ _) | (with_reducible refine Grows.drew ?_) | (with_reducible refine Grows.ext ?_ _ _))), trivial⟩ ?_
        clear hHeld
        rintro X144 ⟨hgn, hex⟩
        have hgS := hgS.trans hgn
        have hsS := hgS.size
        clear hgn hex
        have hHeld := And.intro (HG1.out.trans hgS) hgS
        refine anyB_ready3 (i := 5) (j := 6) (k := 8) (by kernel_rfl) rfl rfl rfl (fun K hK => ?_) (fun K hK => ?_) (fun K hK => ?_)
        · simp only [List.getElem_toArray, List.getElem_cons_succ, List.getElem_cons_zero]
          go_simp
          skip
          refine hK.out _ _ ⟨?_, ?_⟩ ?_
          · ((try dsimp only); exact HG1.out.trans (hgS.trans (by repeat' (first | (with_reducible exact hgc) | (with_reducible exact Grows.refl _) | (with_reducible refine Grows.alloc ?_ _) | (with_reducible refine Grows.drew ?_) | (with_reducible refine Grows.ext ?_ _ _)))))
          · ((try dsimp only); exact hgS.trans (by repeat' (first | (with_reducible exact hgc) | (with_reducible exact Grows.refl _) | (with_reducible refine Grows.alloc ?_ _) | (with_reducible refine Grows.drew ?_) | (with_reducible refine Grows.ext ?_ _ _))))
          clear hK K hHeld
          intro hHeld
          try simp only [Act.put, List.getElem_toArray, List.getElem_cons_succ, List.getElem_cons_zero, List.setIfInBounds_toArray, List.set_cons_zero, List.set_cons_succ]
          refine abs_anyB (fun W' => Grows X144 W' ∧ Blk W' _ 25 #[.int .i64 1, .int .i64 pane, .slice none 0 0, .slice none 0 0, .int .i64 1, .int .i64 fresh, .slice none 0 0, .slice none 0 0]) ⟨(by repeat' (first | (with_reducible exact hgc) | (with_reducible exact Grows.refl _) | (with_reducible refine Grows.alloc ?_ _) | (with_reducible refine Grows.drew ?_) | (with_reducible refine Grows.ext ?_ _ _))), Blk.new rfl⟩ ?_
          clear hHeld
          rintro X145 ⟨hgn, hex⟩
          have HKP := Lib.hid hex
          have hgS := hgS.trans hgn
          have hsS := hgS.size
          clear hgn hex
          have hHeld := And.intro (HG1.out.trans hgS) hgS
          refine anyB_ready2 (i := 6) (j := 8) (by kernel_rfl) rfl rfl (fun K hK => ?_) (fun K hK => ?_)
          · simp only [List.getElem_toArray, List.getElem_cons_succ, List.getElem_cons_zero]
            go_simp
            skip
            refine hK.out _ _ ⟨?_, ?_⟩ ?_
            · ((try dsimp only); exact HG1.out.trans (hgS.trans (by repeat' (first | (with_reducible exact hgc) | (with_reducible exact Grows.refl _) | (with_reducible refine Grows.alloc ?_ _) | (with_reducible refine Grows.drew ?_) | (with_reducible refine Grows.ext ?_ _ _)))))
            · ((try dsimp only); exact hgS.trans (by repeat' (first | (with_reducible exact hgc) | (with_reducible exact Grows.refl _) | (with_reducible refine Grows.alloc ?_ _) | (with_reducible refine Grows.drew ?_) | (with_reducible refine Grows.ext ?_ _ _))))
            clear hK K hHeld
            intro hHeld
            try simp only [Act.put, List.getElem_toArray, List.getElem_cons_succ, List.getElem_cons_zero, List.setIfInBounds_toArray, List.set_cons_zero, List.set_cons_succ]
            refine abs_anyB (fun W' => Grows X145 W' ∧ Blk W' _ 3 #[.int .i64 1, .int .i64 1]) ⟨(by repeat' (first | (with_reducible exact hgc) | (with_reducible exact Grows.refl _) | (with_reducible refine Grows.alloc ?_ _) | (with_reducible refine Grows.drew ?_) | (with_reducible refine Grows.ext ?_ _ _))), Blk.new rfl⟩ ?_
            clear hHeld
            rintro X146 ⟨hgn, hex⟩
            have HKP := Lib.hid (HKP.out.grows hgn)
            have HWP := Lib.hid hex
            have hgS := hgS.trans hgn
            have hsS := hgS.size
            clear hgn hex
            have hHeld := And.intro (HG1.out.trans hgS) hgS
            refine anyB_takeT (i := 7) (v := ?v147_7) rfl (by kernel_rfl) (by kernel_rfl) (by kernel_rfl) (by kernel_rfl) (fun _ _ _ h => h) (Or.inl ⟨by kernel_rfl, ?y147_7⟩) hHeld.1 (fun _ => hHeld.2) ?r147_7
            case y147_7 => ((intro w hTw; have k0 := (HB1.out.grows hTw).one.1; have k1 := (HB2.out.grows hTw).one.1; have hl1 := (HB1.out.grows hTw).lt; have hl2 := (HB2.out.grows hTw).lt; clear hTw; go_simp); (try go_ints); (try with_reducible rfl))
            try simp only [Act.put, List.getElem_toArray, List.getElem_cons_succ, List.getElem_cons_zero, List.setIfInBounds_toArray, List.set_cons_zero, List.set_cons_succ]
            refine anyB_ready (i := 8) (by kernel_rfl) rfl (fun K hK => ?_)
            simp only [List.getElem_toArray, List.getElem_cons_succ, List.getElem_cons_zero]
            go_simp
            skip
            refine hK.out _ _ ⟨?_, ?_⟩ ?_
            · ((try dsimp only); exact HG1.out.trans (hgS.trans (by repeat' (first | (with_reducible exact hgc) | (with_reducible exact Grows.refl _) | (with_reducible refine Grows.alloc ?_ _) | (with_reducible refine Grows.drew ?_) | (with_reducible refine Grows.ext ?_ _ _)))))
            · ((try dsimp only); exact hgS.trans (by repeat' (first | (with_reducible exact hgc) | (with_reducible exact Grows.refl _) | (with_reducible refine Grows.alloc ?_ _) | (with_reducible refine Grows.drew ?_) | (with_reducible refine Grows.ext ?_ _ _))))
            clear hK K hHeld
            intro hHeld
            try simp only [Act.put, List.getElem_toArray, List.getElem_cons_succ, List.getElem_cons_zero, List.setIfInBounds_toArray, List.set_cons_zero, List.set_cons_succ]
            refine abs_anyB (fun W' => Grows X146 W' ∧ Blk W' _ 25 #[.int .i64 0, .int .i64 0, .slice none 0 0, .slice none 0 0]) ⟨(by repeat' (first | (with_reducible exact hgc) | (with_reducible exact Grows.refl _) | (with_reducible refine Grows.alloc ?_ _) | (with_reducible refine Grows.drew ?_) | (with_reducible refine Grows.ext ?_ _ _))), Blk.new rfl⟩ ?_
            clear hHeld
            rintro X148 ⟨hgn, hex⟩
            have HKP := Lib.hid (HKP.out.grows hgn)
            have HWP := Lib.hid (HWP.out.grows hgn)
            have HQB := Lib.hid hex
            have hgS := hgS.trans hgn
            have hsS := hgS.size
            clear hgn hex
            have hHeld := And.intro (HG1.out.trans hgS) hgS
            refine anyB_over (i := 9) (by kernel_rfl) rfl (by kernel_rfl) (fun K hK => ?_)
            simp only [List.getElem_toArray, List.getElem_cons_succ, List.getElem_cons_zero]
            obtain ⟨m0, m1, m2, m3⟩ := HQB.out.four
            obtain ⟨n0, n1, n2, n3⟩ := HQB.out.four'
            have hlq := HQB.out.lt
            go_simp
            skip
            refine hK.out _ _ ?_ ?_
            · ((try dsimp only); exact (by repeat' (first | (with_reducible exact HG1.out.trans hgS) | (with_reducible exact HG1.out.trans (hgS.trans hgc)) | (with_reducible refine Grows.setCell ?_ (Nat.le_refl _) _) | (with_reducible refine Grows.setCell ?_ (by omega) _) | (with_reducible refine Grows.alloc ?_ _) | (with_reducible refine Grows.drew ?_) | (with_reducible refine Grows.ext ?_ _ _))))
            clear hK K hHeld
            intro hHeld
            try simp only [Act.put, List.getElem_toArray, List.getElem_cons_succ, List.getElem_cons_zero, List.setIfInBounds_toArray, List.set_cons_zero, List.set_cons_succ]
            refine anyB_done (by kernel_rfl) ?_ _
            try clear hHeld
            go_wp2_with fail
            go_meet
            case rel =>
              refine ⟨_, _, _, rfl, ?_, HQB.out.set4, ?_⟩
              · exact Grows.set4 hgS (by omega) _ _ _ _
              · exact pair_lay HKP.out HWP.out HQB.out (exc_fresh (k := W2.heap.size) HS.out (by omega) (by omega) _ (by omega)) (exc_fresh (k := W2.heap.size) HS.out (by omega) (by omega) _ (by omega)) _ _ _ _
          · simp only [List.getElem_toArray, List.getElem_cons_succ, List.getElem_cons_zero]
            go_simp
            skip
            refine hK.out _ _ ⟨?_, ?_⟩ ?_
            · ((try dsimp only); exact HG1.out.trans (hgS.trans (by repeat' (first | (with_reducible exact hgc) | (with_reducible exact Grows.refl _) | (with_reducible refine Grows.alloc ?_ _) | (with_reducible refine Grows.drew ?_) | (with_reducible refine Grows.ext ?_ _ _)))))
            · ((try dsimp only); exact hgS.trans (by repeat' (first | (with_reducible exact hgc) | (with_reducible exact Grows.refl _) | (with_reducible refine Grows.alloc ?_ _) | (with_reducible refine Grows.drew ?_) | (with_reducible refine Grows.ext ?_ _ _))))
            clear hK K hHeld
            intro hHeld
            try simp only [Act.put, List.getElem_toArray, List.getElem_cons_succ, List.getElem_cons_zero, List.setIfInBounds_toArray, List.set_cons_zero, List.set_cons_succ]
            refine abs_anyB (fun W' => Grows X145 W' ∧ Blk W' _ 25 #[.int .i64 0, .int .i64 0, .slice none 0 0, .slice none 0 0]) ⟨(by repeat' (first | (with_reducible exact hgc) | (with_reducible exact Grows.refl _) | (with_reducible refine Grows.alloc ?_ _) | (with_reducible refine Grows.drew ?_) | (with_reducible refine Grows.ext ?_ _ _))), Blk.new rfl⟩ ?_
            clear hHeld
            rintro X149 ⟨hgn, hex⟩
            have HKP := Lib.hid (HKP.out.grows hgn)
            have HQB := Lib.hid hex
            have hgS := hgS.trans hgn
            have hsS := hgS.size
            clear hgn hex
            have hHeld := And.intro (HG1.out.trans hgS) hgS
            refine anyB_ready (i := 6) (by kernel_rfl) rfl (fun K hK => ?_)
            simp only [List.getElem_toArray, List.getElem_cons_succ, List.getElem_cons_zero]
            go_simp
            skip
            refine hK.out _ _ ⟨?_, ?_⟩ ?_
            · ((try dsimp only); exact HG1.out.trans (hgS.trans (by repeat' (first | (with_reducible exact hgc) | (with_reducible exact Grows.refl _) | (with_reducible refine Grows.alloc ?_ _) | (with_reducible refine Grows.drew ?_) | (with_reducible refine Grows.ext ?_ _ _)))))
            · ((try dsimp only); exact hgS.trans (by repeat' (first | (with_reducible exact hgc) | (with_reducible exact Grows.refl _) | (with_reducible refine Grows.alloc ?_ _) | (with_reducible refine Grows.drew ?_) | (with_reducible refine Grows.ext ?_ _ _))))
            clear hK K hHeld
            intro hHeld
            try simp only [Act.put, List.getElem_toArray, List.getElem_cons_succ, List.getElem_cons_zero, List.setIfInBounds_toArray, List.set_cons_zero, List.set_cons_succ]
            refine abs_anyB (fun W' => Grows X149 W' ∧ Blk W' _ 3 #[.int .i64 1, .int .i64 1]) ⟨(by repeat' (first | (with_reducible exact hgc) | (with_reducible exact Grows.refl _) | (with_reducible refine Grows.alloc ?_ _) | (with_reducible refine Grows.drew ?_) | (with_reducible refine Grows.ext ?_ _ _))), Blk.new rfl⟩ ?_
            clear hHeld
            rintro X150 ⟨hgn, hex⟩
            have HKP := Lib.hid (HKP.out.grows hgn)
            have HQB := Lib.hid (HQB.out.grows hgn)
            have HWP := Lib.hid hex
            have hgS := hgS.trans hgn
            have hsS := hgS.size
            clear hgn hex
            have hHeld := And.intro (HG1.out.trans hgS) hgS
            refine anyB_takeT (i := 7) (v := ?v151_7) rfl (by kernel_rfl) (by kernel_rfl) (by kernel_rfl) (by kernel_rfl) (fun _ _ _ h => h) (Or.inl ⟨by kernel_rfl, ?y151_7⟩) hHeld.1 (fun _ => hHeld.2) ?r151_7
            case y151_7 => ((intro w hTw; have k0 := (HB1.out.grows hTw).one.1; have k1 := (HB2.out.grows hTw).one.1; have hl1 := (HB1.out.grows hTw).lt; have hl2 := (HB2.out.grows hTw).lt; clear hTw; go_simp); (try go_ints); (try with_reducible rfl))
            try simp only [Act.put, List.getElem_toArray, List.getElem_cons_succ, List.getElem_cons_zero, List.setIfInBounds_toArray, List.set_cons_zero, List.set_cons_succ]
            refine anyB_over (i := 9) (by kernel_rfl) rfl (by kernel_rfl) (fun K hK => ?_)
            simp only [List.getElem_toArray, List.getElem_cons_succ, List.getElem_cons_zero]
            obtain ⟨m0, m1, m2, m3⟩ := HQB.out.four
            obtain ⟨n0, n1, n2, n3⟩ := HQB.out.four'
            have hlq := HQB.out.lt
            go_simp
            skip
            refine hK.out _ _ ?_ ?_
            · ((try dsimp only); exact (by repeat' (first | (with_reducible exact HG1.out.trans hgS) | (with_reducible exact HG1.out.trans (hgS.trans hgc)) | (with_reducible refine Grows.setCell ?_ (Nat.le_refl _) _) | (with_reducible refine Grows.setCell ?_ (by omega) _) | (with_reducible refine Grows.alloc ?_ _) | (with_reducible refine Grows.drew ?_) | (with_reducible refine Grows.ext ?_ _ _))))
            clear hK K hHeld
            intro hHeld
            try simp only [Act.put, List.getElem_toArray, List.getElem_cons_succ, List.getElem_cons_zero, List.setIfInBounds_toArray, List.set_cons_zero, List.set_cons_succ]
            refine anyB_done (by kernel_rfl) ?_ _
            try clear hHeld
            go_wp2_with fail
            go_meet
            case rel =>
              refine ⟨_, _, _, rfl, ?_, HQB.out.set4, ?_⟩
              · exact Grows.set4 hgS (by omega) _ _ _ _
              · exact pair_lay HKP.out HWP.out HQB.out (exc_fresh (k := W2.heap.size) HS.out (by omega) (by omega) _ (by omega)) (exc_fresh (k := W2.heap.size) HS.out (by omega) (by omega) _ (by omega)) _ _ _ _
        · simp only [List.getElem_toArray, List.getElem_cons_succ, List.getElem_cons_zero]
          go_simp
          skip
          refine hK.out _ _ ⟨?_, ?_⟩ ?_
          · ((try dsimp only); exact HG1.out.trans (hgS.trans (by repeat' (first | (with_reducible exact hgc) | (with_reducible exact Grows.refl _) | (with_reducible refine Grows.alloc ?_ _) | (with_reducible refine Grows.drew ?_) | (with_reducible refine Grows.ext ?_ _ _)))))
          · ((try dsimp only); exact hgS.trans (by repeat' (first | (with_reducible exact hgc) | (with_reducible exact Grows.refl _) | (with_reducible refine Grows.alloc ?_ _) | (with_reducible refine Grows.drew ?_) | (with_reducible refine Grows.ext ?_ _ _))))
          clear hK K hHeld
          intro hHeld
          try simp only [Act.put, List.getElem_toArray, List.getElem_cons_succ, List.getElem_cons_zero, List.setIfInBounds_toArray, List.set_cons_zero, List.set_cons_succ]
          refine abs_anyB (fun W' => Grows X144 W' ∧ Blk W' _ 3 #[.int .i64 1, .int .i64 1]) ⟨(by repeat' (first | (with_reducible exact hgc) | (with_reducible exact Grows.refl _) | (with_reducible refine Grows.alloc ?_ _) | (with_reducible refine Grows.drew ?_) | (with_reducible refine Grows.ext ?_ _ _))), Blk.new rfl⟩ ?_
          clear hHeld
          rintro X152 ⟨hgn, hex⟩
          have HWP := Lib.hid hex
          have hgS := hgS.trans hgn
          have hsS := hgS.size
          clear hgn hex
          have hHeld := And.intro (HG1.out.trans hgS) hgS
          refine anyB_ready2 (i := 5) (j := 8) (by kernel_rfl) rfl rfl (fun K hK => ?_) (fun K hK => ?_)
          · simp only [List.getElem_toArray, List.getElem_cons_succ, List.getElem_cons_zero]
            go_simp
            skip
            refine hK.out _ _ ⟨?_, ?_⟩ ?_
            · ((try dsimp only); exact HG1.out.trans (hgS.trans (by repeat' (first | (with_reducible exact hgc) | (with_reducible exact Grows.refl _) | (with_reducible refine Grows.alloc ?_ _) | (with_reducible refine Grows.drew ?_) | (with_reducible refine Grows.ext ?_ _ _)))))
            · ((try dsimp only); exact hgS.trans (by repeat' (first | (with_reducible exact hgc) | (with_reducible exact Grows.refl _) | (with_reducible refine Grows.alloc ?_ _) | (with_reducible refine Grows.drew ?_) | (with_reducible refine Grows.ext ?_ _ _))))
            clear hK K hHeld
            intro hHeld
            try simp only [Act.put, List.getElem_toArray, List.getElem_cons_succ, List.getElem_cons_zero, List.setIfInBounds_toArray, List.set_cons_zero, List.set_cons_succ]
            refine abs_anyB (fun W' => Grows X152 W' ∧ Blk W' _ 25 #[.int .i64 1, .int .i64 pane, .slice none 0 0, .slice none 0 0, .int .i64 1, .int .i64 fresh, .slice none 0 0, .slice none 0 0]) ⟨(by repeat' (first | (with_reducible exact hgc) | (with_reducible exact Grows.refl _) | (with_reducible refine Grows.alloc ?_ _) | (with_reducible refine Grows.drew ?_) | (with_reducible refine Grows.ext ?_ _ _))), Blk.new rfl⟩ ?_
            clear hHeld
            rintro X153 ⟨hgn, hex⟩
            have HWP := Lib.hid (HWP.out.grows hgn)
            have HKP := Lib.hid hex
            have hgS := hgS.trans hgn
            have hsS := hgS.size
            clear hgn hex
            have hHeld := And.intro (HG1.out.trans hgS) hgS
            refine anyB_takeT (i := 7) (v := ?v154_7) rfl (by kernel_rfl) (by kernel_rfl) (by kernel_rfl) (by kernel_rfl) (fun _ _ _ h => h) (Or.inl ⟨by kernel_rfl, ?y154_7⟩) hHeld.1 (fun _ => hHeld.2) ?r154_7
            case y154_7 => ((intro w hTw; have k0 := (HB1.out.grows hTw).one.1; have k1 := (HB2.out.grows hTw).one.1; have hl1 := (HB1.out.grows hTw).lt; have hl2 := (HB2.out.grows hTw).lt; clear hTw; go_simp); (try go_ints); (try with_reducible rfl))
            try simp only [Act.put, List.getElem_toArray, List.getElem_cons_succ, List.getElem_cons_zero, List.setIfInBounds_toArray, List.set_cons_zero, List.set_cons_succ]
            refine anyB_ready (i := 8) (by kernel_rfl) rfl (fun K hK => ?_)
            simp only [List.getElem_toArray, List.getElem_cons_succ, List.getElem_cons_zero]
            go_simp
            skip
            refine hK.out _ _ ⟨?_, ?_⟩ ?_
            · ((try dsimp only); exact HG1.out.trans (hgS.trans (by repeat' (first | (with_reducible exact hgc) | (with_reducible exact Grows.refl _) | (with_reducible refine Grows.alloc ?_ _) | (with_reducible refine Grows.drew ?_) | (with_reducible refine Grows.ext ?_ _ _)))))
            · ((try dsimp only); exact hgS.trans (by repeat' (first | (with_reducible exact hgc) | (with_reducible exact Grows.refl _) | (with_reducible refine Grows.alloc ?_ _) | (with_reducible refine Grows.drew ?_) | (with_reducible refine Grows.ext ?_ _ _))))
            clear hK K hHeld
            intro hHeld
            try simp only [Act.put, List.getElem_toArray, List.getElem_cons_succ, List.getElem_cons_zero, List.setIfInBounds_toArray, List.set_cons_zero, List.set_cons_succ]
            refine abs_anyB (fun W' => Grows X153 W' ∧ Blk W' _ 25 #[.int .i64 0, .int .i64 0, .slice none 0 0, .slice none 0 0]) ⟨(by repeat' (first | (with_reducible exact hgc) | (with_reducible exact Grows.refl _) | (with_reducible refine Grows.alloc ?_ _) | (with_reducible refine Grows.drew ?_) | (with_reducible refine Grows.ext ?_ _ _))), Blk.new rfl⟩ ?_
            clear hHeld
            rintro X155 ⟨hgn, hex⟩
            have HKP := Lib.hid (HKP.out.grows hgn)
            have HWP := Lib.hid (HWP.out.grows hgn)
            have HQB := Lib.hid hex
            have hgS := hgS.trans hgn
            have hsS := hgS.size
            clear hgn hex
            have hHeld := And.intro (HG1.out.trans hgS) hgS
            refine anyB_over (i := 9) (by kernel_rfl) rfl (by kernel_rfl) (fun K hK => ?_)
            simp only [List.getElem_toArray, List.getElem_cons_succ, List.getElem_cons_zero]
            obtain ⟨m0, m1, m2, m3⟩ := HQB.out.four
            obtain ⟨n0, n1, n2, n3⟩ := HQB.out.four'
            have hlq := HQB.out.lt
            go_simp
            skip
            refine hK.out _ _ ?_ ?_
            · ((try dsimp only); exact (by repeat' (first | (with_reducible exact HG1.out.trans hgS) | (with_reducible exact HG1.out.trans (hgS.trans hgc)) | (with_reducible refine Grows.setCell ?_ (Nat.le_refl _) _) | (with_reducible refine Grows.setCell ?_ (by omega) _) | (with_reducible refine Grows.alloc ?_ _) | (with_reducible refine Grows.drew ?_) | (with_reducible refine Grows.ext ?_ _ _))))
            clear hK K hHeld
            intro hHeld
            try simp only [Act.put, List.getElem_toArray, List.getElem_cons_succ, List.getElem_cons_zero, List.setIfInBounds_toArray, List.set_cons_zero, List.set_cons_succ]
            refine anyB_done (by kernel_rfl) ?_ _
            try clear hHeld
            go_wp2_with fail
            go_meet
            case rel =>
              refine ⟨_, _, _, rfl, ?_, HQB.out.set4, ?_⟩
              · exact Grows.set4 hgS (by omega) _ _ _ _
              · exact pair_lay HKP.out HWP.out HQB.out (exc_fresh (k := W2.heap.size) HS.out (by omega) (by omega) _ (by omega)) (exc_fresh (k := W2.heap.size) HS.out (by omega) (by omega) _ (by omega)) _ _ _ _
          · simp only [List.getElem_toArray, List.getElem_cons_succ, List.getElem_cons_zero]
            go_simp
            skip
            refine hK.out _ _ ⟨?_, ?_⟩ ?_
            · ((try dsimp only); exact HG1.out.trans (hgS.trans (by repeat' (first | (with_reducible exact hgc) | (with_reducible exact Grows.refl _) | (with_reducible refine Grows.alloc ?_ _) | (with_reducible refine Grows.drew ?_) | (with_reducible refine Grows.ext ?_ _ _)))))
            · ((try dsimp only); exact hgS.trans (by repeat' (first | (with_reducible exact hgc) | (with_reducible exact Grows.refl _) | (with_reducible refine Grows.alloc ?_ _) | (with_reducible refine Grows.drew ?_) | (with_reducible refine Grows.ext ?_ _ _))))
            clear hK K hHeld
            intro hHeld
            try simp only [Act.put, List.getElem_toArray, List.getElem_cons_succ, List.getElem_cons_zero, List.setIfInBounds_toArray, List.set_cons_zero, List.set_cons_succ]
            refine abs_anyB (fun W' => Grows X152 W' ∧ Blk W' _ 25 #[.int .i64 0, .int .i64 0, .slice none 0 0, .slice none 0 0]) ⟨(by repeat' (first | (with_reducible exact hgc) | (with_reducible exact Grows.refl _) | (with_reducible refine Grows.alloc ?_ _) | (with_reducible refine Grows.drew ?_) | (with_reducible refine Grows.ext ?_ _ _))), Blk.new rfl⟩ ?_
            clear hHeld
            rintro X156 ⟨hgn, hex⟩
            have HWP := Lib.hid (HWP.out.grows hgn)
            have HQB := Lib.hid hex
            have hgS := hgS.trans hgn
            have hsS := hgS.size
            clear hgn hex
            have hHeld := And.intro (HG1.out.trans hgS) hgS
            refine anyB_ready (i := 5) (by kernel_rfl) rfl (fun K hK => ?_)
            simp only [List.getElem_toArray, List.getElem_cons_succ, List.getElem_cons_zero]
            go_simp
            skip
            refine hK.out _ _ ⟨?_, ?_⟩ ?_
            · ((try dsimp only); exact HG1.out.trans (hgS.trans (by repeat' (first | (with_reducible exact hgc) | (with_reducible exact Grows.refl _) | (with_reducible refine Grows.alloc ?_ _) | (with_reducible refine Grows.drew ?_) | (with_reducible refine Grows.ext ?_ _ _)))))
            · ((try dsimp only); exact hgS.trans (by repeat' (first | (with_reducible exact hgc) | (with_reducible exact Grows.refl _) | (with_reducible refine Grows.alloc ?_ _) | (with_reducible refine Grows.drew ?_) | (with_reducible refine Grows.ext ?_ _ _))))
            clear hK K hHeld
            intro hHeld
            try simp only [Act.put, List.getElem_toArray, List.getElem_cons_succ, List.getElem_cons_zero, List.setIfInBounds_toArray, List.set_cons_zero, List.set_cons_succ]
            refine abs_anyB (fun W' => Grows X156 W' ∧ Blk W' _ 25 #[.int .i64 1, .int .i64 pane, .slice none 0 0, .slice none 0 0, .int .i64 1, .int .i64 fresh, .slice none 0 0, .slice none 0 0]) ⟨(by repeat' (first | (with_reducible exact hgc) | (with_reducible exact Grows.refl _) | (with_reducible refine Grows.alloc ?_ _) | (with_reducible refine Grows.drew ?_) | (with_reducible refine Grows.ext ?_ _ _))), Blk.new rfl⟩ ?_
            clear hHeld
            rintro X157 ⟨hgn, hex⟩
            have HWP := Lib.hid (HWP.out.grows hgn)
            have HQB := Lib.hid (HQB.out.grows hgn)
            have HKP := Lib.hid hex
            have hgS := hgS.trans hgn
            have hsS := hgS.size
            clear hgn hex
            have hHeld := And.intro (HG1.out.trans hgS) hgS
            refine anyB_takeT (i := 7) (v := ?v158_7) rfl (by kernel_rfl) (by kernel_rfl) (by kernel_rfl) (by kernel_rfl) (fun _ _ _ h => h) (Or.inl ⟨by kernel_rfl, ?y158_7⟩) hHeld.1 (fun _ => hHeld.2) ?r158_7
            case y158_7 => ((intro w hTw; have k0 := (HB1.out.grows hTw).one.1; have k1 := (HB2.out.grows hTw).one.1; have hl1 := (HB1.out.grows hTw).lt; have hl2 := (HB2.out.grows hTw).lt; clear hTw; go_simp); (try go_ints); (try with_reducible rfl))
            try simp only [Act.put, List.getElem_toArray, List.getElem_cons_succ, List.getElem_cons_zero, List.setIfInBounds_toArray, List.set_cons_zero, List.set_cons_succ]
            refine anyB_over (i := 9) (by kernel_rfl) rfl (by kernel_rfl) (fun K hK => ?_)
            simp only [List.getElem_toArray, List.getElem_cons_succ, List.getElem_cons_zero]
            obtain ⟨m0, m1, m2, m3⟩ := HQB.out.four
            obtain ⟨n0, n1, n2, n3⟩ := HQB.out.four'
            have hlq := HQB.out.lt
            go_simp
            skip
            refine hK.out _ _ ?_ ?_
            · ((try dsimp only); exact (by repeat' (first | (with_reducible exact HG1.out.trans hgS) | (with_reducible exact HG1.out.trans (hgS.trans hgc)) | (with_reducible refine Grows.setCell ?_ (Nat.le_refl _) _) | (with_reducible refine Grows.setCell ?_ (by omega) _) | (with_reducible refine Grows.alloc ?_ _) | (with_reducible refine Grows.drew ?_) | (with_reducible refine Grows.ext ?_ _ _))))
            clear hK K hHeld
            intro hHeld
            try simp only [Act.put, List.getElem_toArray, List.getElem_cons_succ, List.getElem_cons_zero, List.setIfInBounds_toArray, List.set_cons_zero, List.set_cons_succ]
            refine anyB_done (by kernel_rfl) ?_ _
            try clear hHeld
            go_wp2_with fail
            go_meet
            case rel =>
              refine ⟨_, _, _, rfl, ?_, HQB.out.set4, ?_⟩
              · exact Grows.set4 hgS (by omega) _ _ _ _
              · exact pair_lay HKP.out HWP.out HQB.out (exc_fresh (k := W2.heap.size) HS.out (by omega) (by omega) _ (by omega)) (exc_fresh (k := W2.heap.size) HS.out (by omega) (by omega) _ (by omega)) _ _ _ _
        · simp only [List.getElem_toArray, List.getElem_cons_succ, List.getElem_cons_zero]
          go_simp
          skip
          refine hK.out _ _ ⟨?_, ?_⟩ ?_
          · ((try dsimp only); exact HG1.out.trans (hgS.trans (by repeat' (first | (with_reducible exact hgc) | (with_reducible exact Grows.refl _) | (with_reducible refine Grows.alloc ?_ _) | (with_reducible refine Grows.drew ?_) | (with_reducible refine Grows.ext ?_ _ _)))))
          · ((try dsimp only); exact hgS.trans (by repeat' (first | (with_reducible exact hgc) | (with_reducible exact Grows.refl _) | (with_reducible refine Grows.alloc ?_ _) | (with_reducible refine Grows.drew ?_) | (with_reducible refine Grows.ext ?_ _ _))))
          clear hK K hHeld
          intro hHeld
          try simp only [Act.put, List.getElem_toArray, List.getElem_cons_succ, List.getElem_cons_zero, List.setIfInBounds_toArray, List.set_cons_zero, List.set_cons_succ]
          refine abs_anyB (fun W' => Grows X144 W' ∧ Blk W' _ 25 #[.int .i64 0, .int .i64 0, .slice none 0 0, .slice none 0 0]) ⟨(by repeat' (first | (with_reducible exact hgc) | (with_reducible exact Grows.refl _) | (with_reducible refine Grows.alloc ?_ _) | (with_reducible refine Grows.drew ?_) | (with_reducible refine Grows.ext ?_ _ _))), Blk.new rfl⟩ ?_
          clear hHeld
          rintro X159 ⟨hgn, hex⟩
          have HQB := Lib.hid hex
          have hgS := hgS.trans hgn
          have hsS := hgS.size
          clear hgn hex
          have hHeld := And.intro (HG1.out.trans hgS) hgS
          refine anyB_ready2 (i := 5) (j := 6) (by kernel_rfl) rfl rfl (fun K hK => ?_) (fun K hK => ?_)
          · simp only [List.getElem_toArray, List.getElem_cons_succ, List.getElem_cons_zero]
            go_simp
            skip
            refine hK.out _ _ ⟨?_, ?_⟩ ?_
            · ((try dsimp only); exact HG1.out.trans (hgS.trans (by repeat' (first | (with_reducible exact hgc) | (with_reducible exact Grows.refl _) | (with_reducible refine Grows.alloc ?_ _) | (with_reducible refine Grows.drew ?_) | (with_reducible refine Grows.ext ?_ _ _)))))
            · ((try dsimp only); exact hgS.trans (by repeat' (first | (with_reducible exact hgc) | (with_reducible exact Grows.refl _) | (with_reducible refine Grows.alloc ?_ _) | (with_reducible refine Grows.drew ?_) | (with_reducible refine Grows.ext ?_ _ _))))
            clear hK K hHeld
            intro hHeld
            try simp only [Act.put, List.getElem_toArray, List.getElem_cons_succ, List.getElem_cons_zero, List.setIfInBounds_toArray, List.set_cons_zero, List.set_cons_succ]
            refine abs_anyB (fun W' => Grows X159 W' ∧ Blk W' _ 25 #[.int .i64 1, .int .i64 pane, .slice none 0 0, .slice none 0 0, .int .i64 1, .int .i64 fresh, .slice none 0 0, .slice none 0 0]) ⟨(by repeat' (first | (with_reducible exact hgc) | (with_reducible exact Grows.refl _) | (with_reducible refine Grows.alloc ?_ _) | (with_reducible refine Grows.drew ?_) | (with_reducible refine Grows.ext ?_ _ _))), Blk.new rfl⟩ ?_
            clear hHeld
            rintro X160 ⟨hgn, hex⟩
            have HQB := Lib.hid (HQB.out.grows hgn)
            have HKP := Lib.hid hex
            have hgS := hgS.trans hgn
            have hsS := hgS.size
            clear hgn hex
            have hHeld := And.intro (HG1.out.trans hgS) hgS
            refine anyB_ready (i := 6) (by kernel_rfl) rfl (fun K hK => ?_)
            simp only [List.getElem_toArray, List.getElem_cons_succ, List.getElem_cons_zero]
            go_simp
            skip
            refine hK.out _ _ ⟨?_, ?_⟩ ?_
            · ((try dsimp only); exact HG1.out.trans (hgS.trans (by repeat' (first | (with_reducible exact hgc) | (with_reducible exact Grows.refl _) | (with_reducible refine Grows.alloc ?_ _) | (with_reducible refine Grows.drew ?_) | (with_reducible refine Grows.ext ?_ _ _)))))
            · ((try dsimp only); exact hgS.trans (by repeat' (first | (with_reducible exact hgc) | (with_reducible exact Grows.refl _) | (with_reducible refine Grows.alloc ?_ _) | (with_reducible refine Grows.drew ?_) | (with_reducible refine Grows.ext ?_ _ _))))
            clear hK K hHeld
            intro hHeld
            try simp only [Act.put, List.getElem_toArray, List.getElem_cons_succ, List.getElem_cons_zero, List.setIfInBounds_toArray, List.set_cons_zero, List.set_cons_succ]
            refine abs_anyB (fun W' => Grows X160 W' ∧ Blk W' _ 3 #[.int .i64 1, .int .i64 1]) ⟨(by repeat' (first | (with_reducible exact hgc) | (with_reducible exact Grows.refl _) | (with_reducible refine Grows.alloc ?_ _) | (with_reducible refine Grows.drew ?_) | (with_reducible refine Grows.ext ?_ _ _))), Blk.new rfl⟩ ?_
            clear hHeld
            rintro X161 ⟨hgn, hex⟩
            have HKP := Lib.hid (HKP.out.grows hgn)
            have HQB := Lib.hid (HQB.out.grows hgn)
            have HWP := Lib.hid hex
            have hgS := hgS.trans hgn
            have hsS := hgS.size
            clear hgn hex
            have hHeld := And.intro (HG1.out.trans hgS) hgS
            refine anyB_takeT (i := 7) (v := ?v162_7) rfl (by kernel_rfl) (by kernel_rfl) (by kernel_rfl) (by kernel_rfl) (fun _ _ _ h => h) (Or.inl ⟨by kernel_rfl, ?y162_7⟩) hHeld.1 (fun _ => hHeld.2) ?r162_7
            case y162_7 => ((intro w hTw; have k0 := (HB1.out.grows hTw).one.1; have k1 := (HB2.out.grows hTw).one.1; have hl1 := (HB1.out.grows hTw).lt; have hl2 := (HB2.out.grows hTw).lt; clear hTw; go_simp); (try go_ints); (try with_reducible rfl))
            try simp only [Act.put, List.getElem_toArray, List.getElem_cons_succ, List.getElem_cons_zero, List.setIfInBounds_toArray, List.set_cons_zero, List.set_cons_succ]
            refine anyB_over (i := 9) (by kernel_rfl) rfl (by kernel_rfl) (fun K hK => ?_)
            simp only [List.getElem_toArray, List.getElem_cons_succ, List.getElem_cons_zero]
            obtain ⟨m0, m1, m2, m3⟩ := HQB.out.four
            obtain ⟨n0, n1, n2, n3⟩ := HQB.out.four'
            have hlq := HQB.out.lt
            go_simp
            skip
            refine hK.out _ _ ?_ ?_
            · ((try dsimp only); exact (by repeat' (first | (with_reducible exact HG1.out.trans hgS) | (with_reducible exact HG1.out.trans (hgS.trans hgc)) | (with_reducible refine Grows.setCell ?_ (Nat.le_refl _) _) | (with_reducible refine Grows.setCell ?_ (by omega) _) | (with_reducible refine Grows.alloc ?_ _) | (with_reducible refine Grows.drew ?_) | (with_reducible refine Grows.ext ?_ _ _))))
            clear hK K hHeld
            intro hHeld
            try simp only [Act.put, List.getElem_toArray, List.getElem_cons_succ, List.getElem_cons_zero, List.setIfInBounds_toArray, List.set_cons_zero, List.set_cons_succ]
            refine anyB_done (by kernel_rfl) ?_ _
            try clear hHeld
            go_wp2_with fail
            go_meet
            case rel =>
              refine ⟨_, _, _, rfl, ?_, HQB.out.set4, ?_⟩
              · exact Grows.set4 hgS (by omega) _ _ _ _
              · exact pair_lay HKP.out HWP.out HQB.out (exc_fresh (k := W2.heap.size) HS.out (by omega) (by omega) _ (by omega)) (exc_fresh (k := W2.heap.size) HS.out (by omega) (by omega) _ (by omega)) _ _ _ _
          · simp only [List.getElem_toArray, List.getElem_cons_succ, List.getElem_cons_zero]
            go_simp
            skip
            refine hK.out _ _ ⟨?_, ?_⟩ ?_
            · ((try dsimp only); exact HG1.out.trans (hgS.trans (by repeat' (first | (with_reducible exact hgc) | (with_reducible exact Grows.refl _) | (with_reducible refine Grows.alloc ?_ _) | (with_reducible refine Grows.drew ?_) | (with_reducible refine Grows.ext ?_ _ _)))))
            · ((try dsimp only); exact hgS.trans (by repeat' (first | (with_reducible exact hgc) | (with_reducible exact Grows.refl _) | (with_reducible refine Grows.alloc ?_ _) | (with_reducible refine Grows.drew ?_) | (with_reducible refine Grows.ext ?_ _ _))))
            clear hK K hHeld
            intro hHeld
            try simp only [Act.put, List.getElem_toArray, List.getElem_cons_succ, List.getElem_cons_zero, List.setIfInBounds_toArray, List.set_cons_zero, List.set_cons_succ]
            refine abs_anyB (fun W' => Grows X159 W' ∧ Blk W' _ 3 #[.int .i64 1, .int .i64 1]) ⟨(by repeat' (first | (with_reducible exact hgc) | (with_reducible exact Grows.refl _) | (with_reducible refine Grows.alloc ?_ _) | (with_reducible refine Grows.drew ?_) | (with_reducible refine Grows.ext ?_ _ _))), Blk.new rfl⟩ ?_
            clear hHeld
            rintro X163 ⟨hgn, hex⟩
            have HQB := Lib.hid (HQB.out.grows hgn)
            have HWP := Lib.hid hex
            have hgS := hgS.trans hgn
            have hsS := hgS.size
            clear hgn hex
            have hHeld := And.intro (HG1.out.trans hgS) hgS
            refine anyB_ready (i := 5) (by kernel_rfl) rfl (fun K hK => ?_)
            simp only [List.getElem_toArray, List.getElem_cons_succ, List.getElem_cons_zero]
            go_simp
            skip
            refine hK.out _ _ ⟨?_, ?_⟩ ?_
            · ((try dsimp only); exact HG1.out.trans (hgS.trans (by repeat' (first | (with_reducible exact hgc) | (with_reducible exact Grows.refl _) | (with_reducible refine Grows.alloc ?_ _) | (with_reducible refine Grows.drew ?_) | (with_reducible refine Grows.ext ?_ _ _)))))
            · ((try dsimp only); exact hgS.trans (by repeat' (first | (with_reducible exact hgc) | (with_reducible exact Grows.refl _) | (with_reducible refine Grows.alloc ?_ _) | (with_reducible refine Grows.drew ?_) | (with_reducible refine Grows.ext ?_ _ _))))
            clear hK K hHeld
            intro hHeld
            try simp only [Act.put, List.getElem_toArray, List.getElem_cons_succ, List.getElem_cons_zero, List.setIfInBounds_toArray, List.set_cons_zero, List.set_cons_succ]
            refine abs_anyB (fun W' => Grows X163 W' ∧ Blk W' _ 25 #[.int .i64 1, .int .i64 pane, .slice none 0 0, .slice none 0 0, .int .i64 1, .int .i64 fresh, .slice none 0 0, .slice none 0 0]) ⟨(by repeat' (first | (with_reducible exact hgc) | (with_reducible exact Grows.refl _) | (with_reducible refine Grows.alloc ?_ _) | (with_reducible refine Grows.drew ?_) | (with_reducible refine Grows.ext ?_ _ _))), Blk.new rfl⟩ ?_
            clear hHeld
            rintro X164 ⟨hgn, hex⟩
            have HWP := Lib.hid (HWP.out.grows hgn)
            have HQB := Lib.hid (HQB.out.grows hgn)
            have HKP := Lib.hid hex
            have hgS := hgS.trans hgn
            have hsS := hgS.size
            clear hgn hex
            have hHeld := And.intro (HG1.out.trans hgS) hgS
            refine anyB_takeT (i := 7) (v := ?v165_7) rfl (by kernel_rfl) (by kernel_rfl) (by kernel_rfl) (by kernel_rfl) (fun _ _ _ h => h) (Or.inl ⟨by kernel_rfl, ?y165_7⟩) hHeld.1 (fun _ => hHeld.2) ?r165_7
            case y165_7 => ((intro w hTw; have k0 := (HB1.out.grows hTw).one.1; have k1 := (HB2.out.grows hTw).one.1; have hl1 := (HB1.out.grows hTw).lt; have hl2 := (HB2.out.grows hTw).lt; clear hTw; go_simp); (try go_ints); (try with_reducible rfl))
            try simp only [Act.put, List.getElem_toArray, List.getElem_cons_succ, List.getElem_cons_zero, List.setIfInBounds_toArray, List.set_cons_zero, List.set_cons_succ]
            refine anyB_over (i := 9) (by kernel_rfl) rfl (by kernel_rfl) (fun K hK => ?_)
            simp only [List.getElem_toArray, List.getElem_cons_succ, List.getElem_cons_zero]
            obtain ⟨m0, m1, m2, m3⟩ := HQB.out.four
            obtain ⟨n0, n1, n2, n3⟩ := HQB.out.four'
            have hlq := HQB.out.lt
            go_simp
            skip
            refine hK.out _ _ ?_ ?_
            · ((try dsimp only); exact (by repeat' (first | (with_reducible exact HG1.out.trans hgS) | (with_reducible exact HG1.out.trans (hgS.trans hgc)) | (with_reducible refine Grows.setCell ?_ (Nat.le_refl _) _) | (with_reducible refine Grows.setCell ?_ (by omega) _) | (with_reducible refine Grows.alloc ?_ _) | (with_reducible refine Grows.drew ?_) | (with_reducible refine Grows.ext ?_ _ _))))
            clear hK K hHeld
            intro hHeld
            try simp only [Act.put, List.getElem_toArray, List.getElem_cons_succ, List.getElem_cons_zero, List.setIfInBounds_toArray, List.set_cons_zero, List.set_cons_succ]
            refine anyB_done (by kernel_rfl) ?_ _
            try clear hHeld
            go_wp2_with fail
            go_meet
            case rel =>
              refine ⟨_, _, _, rfl, ?_, HQB.out.set4, ?_⟩
              · exact Grows.set4 hgS (by omega) _ _ _ _
              · exact pair_lay HKP.out HWP.out HQB.out (exc_fresh (k := W2.heap.size) HS.out (by omega) (by omega) _ (by omega)) (exc_fresh (k := W2.heap.size) HS.out (by omega) (by omega) _ (by omega)) _ _ _ _
      · simp only [List.getElem_toArray, List.getElem_cons_succ, List.getElem_cons_zero]
        go_simp
        skip
        refine hK.out _ _ ⟨?_, ?_⟩ ?_
        · ((try dsimp only); exact HG1.out.trans (hgS.trans (by repeat' (first | (with_reducible exact hgc) | (with_reducible exact Grows.refl _) | (with_reducible refine Grows.alloc ?_ _) | (with_reducible refine Grows.drew ?_) | (with_reducible refine Grows.ext ?_ _ _)))))
        · ((try dsimp only); exact hgS.trans (by repeat' (first | (with_reducible exact hgc) | (with_reducible exact Grows.refl _) | (with_reducible refine Grows.alloc ?_ _) | (with_reducible refine Grows.drew ?_) | (with_reducible refine Grows.ext ?_ _ _))))
        clear hK K hHeld
        intro hHeld
        try simp only [Act.put, List.getElem_toArray, List.getElem_cons_succ, List.getElem_cons_zero, List.setIfInBounds_toArray, List.set_cons_zero, List.set_cons_succ]
        refine abs_anyB (fun W' => Grows X143 W' ∧ Blk W' _ 3 #[.int .i64 1, .int .i64 1]) ⟨(by repeat' (first | (with_reducible exact hgc) | (with_reducible exact Grows.refl _) | (with_reducible refine Grows.alloc ?_ _) | (with_reducible refine Grows.drew ?_) | (with_reducible refine Grows.ext ?_ _ _))), Blk.new rfl⟩ ?_
        clear hHeld
        rintro X166 ⟨hgn, hex⟩
        have HWP := Lib.hid hex
        have hgS := hgS.trans hgn
        have hsS := hgS.size
        clear hgn hex
        have hHeld := And.intro (HG1.out.trans hgS) hgS
        refine anyB_ready2 (i := 4) (j := 8) (by kernel_rfl) rfl rfl (fun K hK => ?_) (fun K hK => ?_)
        · simp only [List.getElem_toArray, List.getElem_cons_succ, List.getElem_cons_zero]
          go_simp
          (go_at_call 63; (with_reducible refine (leaf_any _ _).mono ?_); rintro e w6 ⟨rfl, h6, d6, rfl⟩)
          refine hK.out _ _ ⟨?_, ?_⟩ ?_
          · ((try dsimp only); exact HG1.out.trans (hgS.trans (by repeat' (first | (with_reducible exact hgc) | (with_reducible exact Grows.refl _) | (with_reducible refine Grows.alloc ?_ _) | (with_reducible refine Grows.drew ?_) | (with_reducible refine Grows.ext ?_ _ _)))))
          · ((try dsimp only); exact hgS.trans (by repeat' (first | (with_reducible exact hgc) | (with_reducible exact Grows.refl _) | (with_reducible refine Grows.alloc ?_ _) | (with_reducible refine Grows.drew ?_) | (with_reducible refine Grows.ext ?_ _ _))))
          clear hK K hHeld
          intro hHeld
          try simp only [Act.put, List.getElem_toArray, List.getElem_cons_succ, List.getElem_cons_zero, List.setIfInBounds_toArray, List.set_cons_zero, List.set_cons_succ]
          refine abs_anyB (fun W' => Grows X166 W' ∧ True) ⟨(by repeat' (first | (with_reducible exact hgc) | (with_reducible exact Grows.refl _) | (with_reducible refine Grows.alloc ?_ _) | (with_reducible refine Grows.drew ?_) | (with_reducible refine Grows.ext ?_ _ _))), trivial⟩ ?_
          clear hHeld
          rintro X167 ⟨hgn, hex⟩
          have HWP := Lib.hid (HWP.out.grows hgn)
          have hgS := hgS.trans hgn
          have hsS := hgS.size
          clear hgn hex
          have hHeld := And.intro (HG1.out.trans hgS) hgS
          refine anyB_ready2 (i := 5) (j := 8) (by kernel_rfl) rfl rfl (fun K hK => ?_) (fun K hK => ?_)
          · simp only [List.getElem_toArray, List.getElem_cons_succ, List.getElem_cons_zero]
            go_simp
            skip
            refine hK.out _ _ ⟨?_, ?_⟩ ?_
            · ((try dsimp only); exact HG1.out.trans (hgS.trans (by repeat' (first | (with_reducible exact hgc) | (with_reducible exact Grows.refl _) | (with_reducible refine Grows.alloc ?_ _) | (with_reducible refine Grows.drew ?_) | (with_reducible refine Grows.ext ?_ _ _)))))
            · ((try dsimp only); exact hgS.trans (by repeat' (first | (with_reducible exact hgc) | (with_reducible exact Grows.refl _) | (with_reducible refine Grows.alloc ?_ _) | (with_reducible refine Grows.drew ?_) | (with_reducible refine Grows.ext ?_ _ _))))
            clear hK K hHeld
            intro hHeld
            try simp only [Act.put, List.getElem_toArray, List.getElem_cons_succ, List.getElem_cons_zero, List.setIfInBounds_toArray, List.set_cons_zero, List.set_cons_succ]
            refine abs_anyB (fun W' => Grows X167 W' ∧ Blk W' _ 25 #[.int .i64 1, .int .i64 pane, .slice none 0 0, .slice none 0 0, .int .i64 1, .int .i64 fresh, .slice none 0 0, .slice none 0 0]) ⟨(by repeat' (first | (with_reducible exact hgc) | (with_reducible exact Grows.refl _) | (with_reducible refine Grows.alloc ?_ _) | (with_reducible refine Grows.drew ?_) | (with_reducible refine Grows.ext ?_ _ _))), Blk.new rfl⟩ ?_
            clear hHeld
            rintro X168 ⟨hgn, hex⟩
            have HWP := Lib.hid (HWP.out.grows hgn)
            have HKP := Lib.hid hex
            have hgS := hgS.trans hgn
            have hsS := hgS.size
            clear hgn hex
            have hHeld := And.intro (HG1.out.trans hgS) hgS
            refine anyB_takeT (i := 7) (v := ?v169_7) rfl (by kernel_rfl) (by kernel_rfl) (by kernel_rfl) (by kernel_rfl) (fun _ _ _ h => h) (Or.inl ⟨by kernel_rfl, ?y169_7⟩) hHeld.1 (fun _ => hHeld.2) ?r169_7
            case y169_7 => ((intro w hTw; have k0 := (HB1.out.grows hTw).one.1; have k1 := (HB2.out.grows hTw).one.1; have hl1 := (HB1.out.grows hTw).lt; have hl2 := (HB2.out.grows hTw).lt; clear hTw; go_simp); (try go_ints); (try with_reducible rfl))
            try simp only [Act.put, List.getElem_toArray, List.getElem_cons_succ, List.getElem_cons_zero, List.setIfInBounds_toArray, List.set_cons_zero, List.set_cons_succ]
            refine anyB_ready (i := 8) (by kernel_rfl) rfl (fun K hK => ?_)
            simp only [List.getElem_toArray, List.getElem_cons_succ, List.getElem_cons_zero]
            go_simp
            skip
            refine hK.out _ _ ⟨?_, ?_⟩ ?_
            · ((try dsimp only); exact HG1.out.trans (hgS.trans (by repeat' (first | (with_reducible exact hgc) | (with_reducible exact Grows.refl _) | (with_reducible refine Grows.alloc ?_ _) | (with_reducible refine Grows.drew ?_) | (with_reducible refine Grows.ext ?_ _ _)))))
            · ((try dsimp only); exact hgS.trans (by repeat' (first | (with_reducible exact hgc) | (with_reducible exact Grows.refl _) | (with_reducible refine Grows.alloc ?_ _) | (with_reducible refine Grows.drew ?_) | (with_reducible refine Grows.ext ?_ _ _))))
            clear hK K hHeld
            intro hHeld
            try simp only [Act.put, List.getElem_toArray, List.getElem_cons_succ, List.getElem_cons_zero, List.setIfInBounds_toArray, List.set_cons_zero, List.set_cons_succ]
            refine abs_anyB (fun W' => Grows X168 W' ∧ Blk W' _ 25 #[.int .i64 0, .int .i64 0, .slice none 0 0, .slice none 0 0]) ⟨(by repeat' (first | (with_reducible exact hgc) | (with_reducible exact Grows.refl _) | (with_reducible refine Grows.alloc ?_ _) | (with_reducible refine Grows.drew ?_) | (with_reducible refine Grows.ext ?_ _ _))), Blk.new rfl⟩ ?_
            clear hHeld
            rintro X170 ⟨hgn, hex⟩
            have HKP := Lib.hid (HKP.out.grows hgn)
            have HWP := Lib.hid (HWP.out.grows hgn)
            have HQB := Lib.hid hex
            have hgS := hgS.trans hgn
            have hsS := hgS.size
            clear hgn hex
            have hHeld := And.intro (HG1.out.trans hgS) hgS
            refine anyB_over (i := 9) (by kernel_rfl) rfl (by kernel_rfl) (fun K hK => ?_)
            simp only [List.getElem_toArray, List.getElem_cons_succ, List.getElem_cons_zero]
            obtain ⟨m0, m1, m2, m3⟩ := HQB.out.four
            obtain ⟨n0, n1, n2, n3⟩ := HQB.out.four'
            have hlq := HQB.out.lt
            go_simp
            skip
            refine hK.out _ _ ?_ ?_
            · ((try dsimp only); exact (by repeat' (first | (with_reducible exact HG1.out.trans hgS) | (with_reducible exact HG1.out.trans (hgS.trans hgc)) | (with_reducible refine Grows.setCell ?_ (Nat.le_refl _) _) | (with_reducible refine Grows.setCell ?_ (by omega) _) | (with_reducible refine Grows.alloc ?_ _) | (with_reducible refine Grows.drew ?_) | (with_reducible refine Grows.ext ?_ _ _))))
            clear hK K hHeld
            intro hHeld
            try simp only [Act.put, List.getElem_toArray, List.getElem_cons_succ, List.getElem_cons_zero, List.setIfInBounds_toArray, List.set_cons_zero, List.set_cons_succ]
            refine anyB_done (by kernel_rfl) ?_ _
            try clear hHeld
            go_wp2_with fail
            go_meet
            case rel =>
              refine ⟨_, _, _, rfl, ?_, HQB.out.set4, ?_⟩
              · exact Grows.set4 hgS (by omega) _ _ _ _
              · exact pair_lay HKP.out HWP.out HQB.out (exc_fresh (k := W2.heap.size) HS.out (by omega) (by omega) _ (by omega)) (exc_fresh (k := W2.heap.size) HS.out (by omega) (by omega) _ (by omega)) _ _ _ _
          · simp only [List.getElem_toArray, List.getElem_cons_succ, List.getElem_cons_zero]
            go_simp
            skip
            refine hK.out _ _ ⟨?_, ?_⟩ ?_
            · ((try dsimp only); exact HG1.out.trans (hgS.trans (by repeat' (first | (with_reducible exact hgc) | (with_reducible exact Grows.refl _) | (with_reducible refine Grows.alloc ?_ _) | (with_reducible refine Grows.drew ?_) | (with_reducible refine Grows.ext ?_ _ _)))))
            · ((try dsimp only); exact hgS.trans (by repeat' (first | (with_reducible exact hgc) | (with_reducible exact Grows.refl _) | (with_reducible refine Grows.alloc ?_ _) | (with_reducible refine Grows.drew ?_) | (with_reducible refine Grows.ext ?_ _ _))))
            clear hK K hHeld
            intro hHeld
            try simp only [Act.put, List.getElem_toArray, List.getElem_cons_succ, List.getElem_cons_zero, List.setIfInBounds_toArray, List.set_cons_zero, List.set_cons_succ]
            refine abs_anyB (fun W' => Grows X167 W' ∧ Blk W' _ 25 #[.int .i64 0, .int .i64 0, .slice none 0 0, .slice none 0 0]) ⟨(by repeat' (first | (with_reducible exact hgc) | (with_reducible exact Grows.refl _) | (with_reducible refine Grows.alloc ?_ _) | (with_reducible refine Grows.drew ?_) | (with_reducible refine Grows.ext ?_ _ _))), Blk.new rfl⟩ ?_
            clear hHeld
            rintro X171 ⟨hgn, hex⟩
            have HWP := Lib.hid (HWP.out.grows hgn)
            have HQB := Lib.hid hex
            have hgS := hgS.trans hgn
            have hsS := hgS.size
            clear hgn hex
            have hHeld := And.intro (HG1.out.trans hgS) hgS
            refine anyB_ready (i := 5) (by kernel_rfl) rfl (fun K hK => ?_)
            simp only [List.getElem_toArray, List.getElem_cons_succ, List.getElem_cons_zero]
            go_simp
            skip
            refine hK.out _ _ ⟨?_, ?_⟩ ?_
            · ((try dsimp only); exact HG1.out.trans (hgS.trans (by repeat' (first | (with_reducible exact hgc) | (with_reducible exact Grows.refl _) | (with_reducible refine Grows.alloc ?_ _) | (with_reducible refine Grows.drew ?_) | (with_reducible refine Grows.ext ?_ _ _)))))
            · ((try dsimp only); exact hgS.trans (by repeat' (first | (with_reducible exact hgc) | (with_reducible exact Grows.refl _) | (with_reducible refine Grows.alloc ?_ _) | (with_reducible refine Grows.drew ?_) | (with_reducible refine Grows.ext ?_ _ _))))
            clear hK K hHeld
            intro hHeld
            try simp only [Act.put, List.getElem_toArray, List.getElem_cons_succ, List.getElem_cons_zero, List.setIfInBounds_toArray, List.set_cons_zero, List.set_cons_succ]
            refine abs_anyB (fun W' => Grows X171 W' ∧ Blk W' _ 25 #[.int .i64 1, .int .i64 pane, .slice none 0 0, .slice none 0 0, .int .i64 1, .int .i64 fresh, .slice none 0 0, .slice none 0 0]) ⟨(by repeat' (first | (with_reducible exact hgc) | (with_reducible exact Grows.refl _) | (with_reducible refine Grows.alloc ?_ _) | (with_reducible refine Grows.drew ?_) | (with_reducible refine Grows.ext ?_ _ _))), Blk.new rfl⟩ ?_
            clear hHeld
            rintro X172 ⟨hgn, hex⟩
            have HWP := Lib.hid (HWP.out.grows hgn)
            have HQB := Lib.hid (HQB.out.grows hgn)
            have HKP := Lib.hid hex
            have hgS := hgS.trans hgn
            have hsS := hgS.size
            clear hgn hex
            have hHeld := And.intro (HG1.out.trans hgS) hgS
            refine anyB_takeT (i := 7) (v := ?v173_7) rfl (by kernel_rfl) (by kernel_rfl) (by kernel_rfl) (by kernel_rfl) (fun _ _ _ h => h) (Or.inl ⟨by kernel_rfl, ?y173_7⟩) hHeld.1 (fun _ => hHeld.2) ?r173_7
            case y173_7 => ((intro w hTw; have k0 := (HB1.out.grows hTw).one.1; have k1 := (HB2.out.grows hTw).one.1; have hl1 := (HB1.out.grows hTw).lt; have hl2 := (HB2.out.grows hTw).lt; clear hTw; go_simp); (try go_ints); (try with_reducible rfl))
            try simp only [Act.put, List.getElem_toArray, List.getElem_cons_succ, List.getElem_cons_zero, List.setIfInBounds_toArray, List.set_cons_zero, List.set_cons_succ]
            refine anyB_over (i := 9) (by kernel_rfl) rfl (by kernel_rfl) (fun K hK => ?_)
            simp only [List.getElem_toArray, List.getElem_cons_succ, List.getElem_cons_zero]
            obtain ⟨m0, m1, m2, m3⟩ := HQB.out.four
            obtain ⟨n0, n1, n2, n3⟩ := HQB.out.four'
            have hlq := HQB.out.lt
            go_simp
            skip
            refine hK.out _ _ ?_ ?_
            · ((try dsimp only); exact (by repeat' (first | (with_reducible exact HG1.out.trans hgS) | (with_reducible exact HG1.out.trans (hgS.trans hgc)) | (with_reducible refine Grows.setCell ?_ (Nat.le_refl _) _) | (with_reducible refine Grows.setCell ?_ (by omega) _) | (with_reducible refine Grows.alloc ?_ _) | (with_reducible refine Grows.drew ?_) | (with_reducible refine Grows.ext ?_ _ _))))
            clear hK K hHeld
            intro hHeld
            try simp only [Act.put, List.getElem_toArray, List.getElem_cons_succ, List.getElem_cons_zero, List.setIfInBounds_toArray, List.set_cons_zero, List.set_cons_succ]
            refine anyB_done (by kernel_rfl) ?_ _
            try clear hHeld
            go_wp2_with fail
            go_meet
            case rel =>
              refine ⟨_, _, _, rfl, ?_, HQB.out.set4, ?_⟩
              · exact Grows.set4 hgS (by omega) _ _ _ _
              · exact pair_lay HKP.out HWP.out HQB.out (exc_fresh (k := W2.heap.size) HS.out (by omega) (by omega) _ (by omega)) (exc_fresh (k := W2.heap.size) HS.out (by omega) (by omega) _ (by omega)) _ _ _ _
        · simp only [List.getElem_toArray, List.getElem_cons_succ, List.getElem_cons_zero]
          go_simp
          skip
          refine hK.out _ _ ⟨?_, ?_⟩ ?_
          · ((try dsimp only); exact HG1.out.trans (hgS.trans (by repeat' (first | (with_reducible exact hgc) | (with_reducible exact Grows.refl _) | (with_reducible refine Grows.alloc ?_ _) | (with_reducible refine Grows.drew ?_) | (with_reducible refine Grows.ext ?_ _ _)))))
          · ((try dsimp only); exact hgS.trans (by repeat' (first | (with_reducible exact hgc) | (with_reducible exact Grows.refl _) | (with_reducible refine Grows.alloc ?_ _) | (with_reducible refine Grows.drew ?_) | (with_reducible refine Grows.ext ?_ _ _))))
          clear hK K hHeld
          intro hHeld
          try simp only [Act.put, List.getElem_toArray, List.getElem_cons_succ, List.getElem_cons_zero, List.setIfInBounds_toArray, List.set_cons_zero, List.set_cons_succ]
          refine abs_anyB (fun W' => Grows X166 W' ∧ Blk W' _ 25 #[.int .i64 0, .int .i64 0, .slice none 0 0, .slice none 0 0]) ⟨(by repeat' (first | (with_reducible exact hgc) | (with_reducible exact Grows.refl _) | (with_reducible refine Grows.alloc ?_ _) | (with_reducible refine Grows.drew ?_) | (with_reducible refine Grows.ext ?_ _ _))), Blk.new rfl⟩ ?_
          clear hHeld
          rintro X174 ⟨hgn, hex⟩
          have HWP := Lib.hid (HWP.out.grows hgn)
          have HQB := Lib.hid hex
          have hgS := hgS.trans hgn
          have hsS := hgS.size
          clear hgn hex
          have hHeld := And.intro (HG1.out.trans hgS) hgS
          refine anyB_ready (i := 4) (by kernel_rfl) rfl (fun K hK => ?_)
          simp only [List.getElem_toArray, List.getElem_cons_succ, List.getElem_cons_zero]
          go_simp
          (go_at_call 63; (with_reducible refine (leaf_any _ _).mono ?_); rintro e w6 ⟨rfl, h6, d6, rfl⟩)
          refine hK.out _ _ ⟨?_, ?_⟩ ?_
          · ((try dsimp only); exact HG1.out.trans (hgS.trans (by repeat' (first | (with_reducible exact hgc) | (with_reducible exact Grows.refl _) | (with_reducible refine Grows.alloc ?_ _) | (with_reducible refine Grows.drew ?_) | (with_reducible refine Grows.ext ?_ _ _)))))
          · ((try dsimp only); exact hgS.trans (by repeat' (first | (with_reducible exact hgc) | (with_reducible exact Grows.refl _) | (with_reducible refine Grows.alloc ?_ _) | (with_reducible refine Grows.drew ?_) | (with_reducible refine Grows.ext ?_ _ _))))
          clear hK K hHeld
          intro hHeld
          try simp only [Act.put, List.getElem_toArray, List.getElem_cons_succ, List.getElem_cons_zero, List.setIfInBounds_toArray, List.set_cons_zero, List.set_cons_succ]
          refine abs_anyB (fun W' => Grows X174 W' ∧ True) ⟨(by repeat' (first | (with_reducible exact hgc) | (with_reducible exact Grows.refl _) | (with_reducible refine Grows.alloc ?_ _) | (with_reducible refine Grows.drew ?_) | (with_reducible refine Grows.ext ?_ _ _))), trivial⟩ ?_
          clear hHeld
          rintro X175 ⟨hgn, hex⟩
          have HWP := Lib.hid (HWP.out.grows hgn)
          have HQB := Lib.hid (HQB.out.grows hgn)
          have hgS := hgS.trans hgn
          have hsS := hgS.size
          clear hgn hex
          have hHeld := And.intro (HG1.out.trans hgS) hgS
          refine anyB_ready (i := 5) (by kernel_rfl) rfl (fun K hK => ?_)
          simp only [List.getElem_toArray, List.getElem_cons_succ, List.getElem_cons_zero]
          go_simp
          skip
          refine hK.out _ _ ⟨?_, ?_⟩ ?_
          · ((try dsimp only); exact HG1.out.trans (hgS.trans (by repeat' (first | (with_reducible exact hgc) | (with_reducible exact Grows.refl _) | (with_reducible refine Grows.alloc ?_ _) | (with_reducible refine Grows.drew ?_) | (with_reducible refine Grows.ext ?_ _ _)))))
          · ((try dsimp only); exact hgS.trans (by repeat' (first | (with_reducible exact hgc) | (with_reducible exact Grows.refl _) | (with_reducible refine Grows.alloc ?_ _) | (with_reducible refine Grows.drew ?_) | (with_reducible refine Grows.ext ?_ _ _))))
          clear hK K hHeld
          intro hHeld
          try simp only [Act.put, List.getElem_toArray, List.getElem_cons_succ, List.getElem_cons_zero, List.setIfInBounds_toArray, List.set_cons_zero, List.set_cons_succ]
          refine abs_anyB (fun W' => Grows X175 W' ∧ Blk W' _ 25 #[.int .i64 1, .int .i64 pane, .slice none 0 0, .slice none 0 0, .int .i64 1, .int .i64 fresh, .slice none 0 0, .slice none 0 0]) ⟨(by repeat' (first | (with_reducible exact hgc) | (with_reducible exact Grows.refl _) | (with_reducible refine Grows.alloc ?_ _) | (with_reducible refine Grows.drew ?_) | (with_reducible refine Grows.ext ?_ _ _))), Blk.new rfl⟩ ?_
          clear hHeld
          rintro X176 ⟨hgn, hex⟩
          have HWP := Lib.hid (HWP.out.grows hgn)
          have HQB := Lib.hid (HQB.out.grows hgn)
          have HKP := Lib.hid hex
          have hgS := hgS.trans hgn
          have hsS := hgS.size
          clear hgn hex
          have hHeld := And.intro (HG1.out.trans hgS) hgS
          refine anyB_takeT (i := 7) (v := ?v177_7) rfl (by kernel_rfl) (by kernel_rfl) (by kernel_rfl) (by kernel_rfl) (fun _ _ _ h => h) (Or.inl ⟨by kernel_rfl, ?y177_7⟩) hHeld.1 (fun _ => hHeld.2) ?r177_7
          case y177_7 => ((intro w hTw; have k0 := (HB1.out.grows hTw).one.1; have k1 := (HB2.out.grows hTw).one.1; have hl1 := (HB1.out.grows hTw).lt; have hl2 := (HB2.out.grows hTw).lt; clear hTw; go_simp); (try go_ints); (try with_reducible rfl))
          try simp only [Act.put, List.getElem_toArray, List.getElem_cons_succ, List.getElem_cons_zero, List.setIfInBounds_toArray, List.set_cons_zero, List.set_cons_succ]
          refine anyB_over (i := 9) (by kernel_rfl) rfl (by kernel_rfl) (fun K hK => ?_)
          simp only [List.getElem_toArray, List.getElem_cons_succ, List.getElem_cons_zero]
          obtain ⟨m0, m1, m2, m3⟩ := HQB.out.four
          obtain ⟨n0, n1, n2, n3⟩ := HQB.out.four'
          have hlq := HQB.out.lt
          go_simp
          skip
          refine hK.out _ _ ?_ ?_
          · ((try dsimp only); exact (by repeat' (first | (with_reducible exact HG1.out.trans hgS) | (with_reducible exact HG1.out.trans (hgS.trans hgc)) | (with_reducible refine Grows.setCell ?_ (Nat.le_refl _) _) | (with_reducible refine Grows.setCell ?_ (by omega) _) | (with_reducible refine Grows.alloc ?_ _) | (with_reducible refine Grows.drew ?_) | (with_reducible refine Grows.ext ?_ _ _))))
          clear hK K hHeld
          intro hHeld
          try simp only [Act.put, List.getElem_toArray, List.getElem_cons_succ, List.getElem_cons_zero, List.setIfInBounds_toArray, List.set_cons_zero, List.set_cons_succ]
          refine anyB_done (by kernel_rfl) ?_ _
          try clear hHeld
          go_wp2_with fail
          go_meet
          case rel =>
            refine ⟨_, _, _, rfl, ?_, HQB.out.set4, ?_⟩
            · exact Grows.set4 hgS (by omega) _ _ _ _
            · exact pair_lay HKP.out HWP.out HQB.out (exc_fresh (k := W2.heap.size) HS.out (by omega) (by omega) _ (by omega)) (exc_fresh (k := W2.heap.size) HS.out (by omega) (by omega) _ (by omega)) _ _ _ _
      · simp only [List.getElem_toArray, List.getElem_cons_succ, List.getElem_cons_zero]
        go_simp
        skip
        refine hK.out _ _ ⟨?_, ?_⟩ ?_
        · ((try dsimp only); exact HG1.out.trans (hgS.trans (by repeat' (first | (with_reducible exact hgc) | (with_reducible exact Grows.refl _) | (with_reducible refine Grows.alloc ?_ _) | (with_reducible refine Grows.drew ?_) | (with_reducible refine Grows.ext ?_ _ _)))))
        · ((try dsimp only); exact hgS.trans (by repeat' (first | (with_reducible exact hgc) | (with_reducible exact Grows.refl _) | (with_reducible refine Grows.alloc ?_ _) | (with_reducible refine Grows.drew ?_) | (with_reducible refine Grows.ext ?_ _ _))))
        clear hK K hHeld
        intro hHeld
        try simp only [Act.put, List.getElem_toArray, List.getElem_cons_succ, List.getElem_cons_zero, List.setIfInBounds_toArray, List.set_cons_zero, List.set_cons_succ]
        refine abs_anyB (fun W' => Grows X143 W' ∧ Blk W' _ 25 #[.int .i64 0, .int .i64 0, .slice none 0 0, .slice none 0 0]) ⟨(by repeat' (first | (with_reducible exact hgc) | (with_reducible exact Grows.refl _) | (with_reducible refine Grows.alloc ?_ _) | (with_reducible refine Grows.drew ?_) | (with_reducible refine Grows.ext ?_ _ _))), Blk.new rfl⟩ ?_
        clear hHeld
        rintro X178 ⟨hgn, hex⟩
        have HQB := Lib.hid hex
        have hgS := hgS.trans hgn
        have hsS := hgS.size
        clear hgn hex
        have hHeld := And.intro (HG1.out.trans hgS) hgS
        refine anyB_ready2 (i := 4) (j := 6) (by kernel_rfl) rfl rfl (fun K hK => ?_) (fun K hK => ?_)
        · simp only [List.getElem_toArray, List.getElem_cons_succ, List.getElem_cons_zero]
          go_simp
          (go_at_call 63; (with_reducible refine (leaf_any _ _).mono ?_); rintro e w6 ⟨rfl, h6, d6, rfl⟩)
          refine hK.out _ _ ⟨?_, ?_⟩ ?_
          · ((try dsimp only); exact HG1.out.trans (hgS.trans (by repeat' (first | (with_reducible exact hgc) | (with_reducible exact Grows.refl _) | (with_reducible refine Grows.alloc ?_ _) | (with_reducible refine Grows.drew ?_) | (with_reducible refine Grows.ext ?_ _ _)))))
          · ((try dsimp only); exact hgS.trans (by repeat' (first | (with_reducible exact hgc) | (with_reducible exact Grows.refl _) | (with_reducible refine Grows.alloc ?_ _) | (with_reducible refine Grows.drew ?_) | (with_reducible refine Grows.ext ?_ _ _))))
          clear hK K hHeld
          intro hHeld
          try simp only [Act.put, List.getElem_toArray, List.getElem_cons_succ, List.getElem_cons_zero, List.setIfInBounds_toArray, List.set_cons_zero, List.set_cons_succ]
          refine abs_anyB (fun W' => Grows X178 W' ∧ True) ⟨(by repeat' (first | (with_reducible exact hgc) | (with_reducible exact Grows.refl _) | (with_reducible refine Grows.alloc ?_ _) | (with_reducible refine Grows.drew ?_) | (with_reducible refine Grows.ext ?_ _ _))), trivial⟩ ?_
          clear hHeld
          rintro X179 ⟨hgn, hex⟩
          have HQB := Lib.hid (HQB.out.grows hgn)
          have hgS := hgS.trans hgn
          have hsS := hgS.size
          clear hgn hex
          have hHeld := And.intro (HG1.out.trans hgS) hgS
          refine anyB_ready2 (i := 5) (j := 6) (by kernel_rfl) rfl rfl (fun K hK => ?_) (fun K hK => ?_)
          · simp only [List.getElem_toArray, List.getElem_cons_succ, List.getElem_cons_zero]
            go_simp
            skip
            refine hK.out _ _ ⟨?_, ?_⟩ ?_
            · ((try dsimp only); exact HG1.out.trans (hgS.trans (by repeat' (first | (with_reducible exact hgc) | (with_reducible exact Grows.refl _) | (with_reducible refine Grows.alloc ?_ _) | (with_reducible refine Grows.drew ?_) | (with_reducible refine Grows.ext ?_ _ _)))))
            · ((try dsimp only); exact hgS.trans (by repeat' (first | (with_reducible exact hgc) | (with_reducible exact Grows.refl _) | (with_reducible refine Grows.alloc ?_ _) | (with_reducible refine Grows.drew ?_) | (with_reducible refine Grows.ext ?_ _ _))))
            clear hK K hHeld
            intro hHeld
            try simp only [Act.put, List.getElem_toArray, List.getElem_cons_succ, List.getElem_cons_zero, List.setIfInBounds_toArray, List.set_cons_zero, List.set_cons_succ]
            refine abs_anyB (fun W' => Grows X179 W' ∧ Blk W' _ 25 #[.int .i64 1, .int .i64 pane, .slice none 0 0, .slice none 0 0, .int .i64 1, .int .i64 fresh, .slice none 0 0, .slice none 0 0]) ⟨(by repeat' (first | (with_reducible exact hgc) | (with_reducible exact Grows.refl _) | (with_reducible refine Grows.alloc ?_ _) | (with_reducible refine Grows.drew ?_) | (with_reducible refine Grows.ext ?_ _ _))), Blk.new rfl⟩ ?_
            clear hHeld
            rintro X180 ⟨hgn, hex⟩
            have HQB := Lib.hid (HQB.out.grows hgn)
            have HKP := Lib.hid hex
            have hgS := hgS.trans hgn
            have hsS := hgS.size
            clear hgn hex
            have hHeld := And.intro (HG1.out.trans hgS) hgS
            refine anyB_ready (i := 6) (by kernel_rfl) rfl (fun K hK => ?_)
            simp only [List.getElem_toArray, List.getElem_cons_succ, List.getElem_cons_zero]
            go_simp
            skip
            refine hK.out _ _ ⟨?_, ?_⟩ ?_
            · ((try dsimp only); exact HG1.out.trans (hgS.trans (by repeat' (first | (with_reducible exact hgc) | (with_reducible exact Grows.refl _) | (with_reducible refine Grows.alloc ?_ _) | (with_reducible refine Grows.drew ?_) | (with_reducible refine Grows.ext ?_ _ _)))))
            · ((try dsimp only); exact hgS.trans (by repeat' (first | (with_reducible exact hgc) | (with_reducible exact Grows.refl _) | (with_reducible refine Grows.alloc ?_ _) | (with_reducible refine Grows.drew ?_) | (with_reducible refine Grows.ext ?_ _ _))))
            clear hK K hHeld
            intro hHeld
            try simp only [Act.put, List.getElem_toArray, List.getElem_cons_succ, List.getElem_cons_zero, List.setIfInBounds_toArray, List.set_cons_zero, List.set_cons_succ]
            refine abs_anyB (fun W' => Grows X180 W' ∧ Blk W' _ 3 #[.int .i64 1, .int .i64 1]) ⟨(by repeat' (first | (with_reducible exact hgc) | (with_reducible exact Grows.refl _) | (with_reducible refine Grows.alloc ?_ _) | (with_reducible refine Grows.drew ?_) | (with_reducible refine Grows.ext ?_ _ _))), Blk.new rfl⟩ ?_
            clear hHeld
            rintro X181 ⟨hgn, hex⟩
            have HKP := Lib.hid (HKP.out.grows hgn)
            have HQB := Lib.hid (HQB.out.grows hgn)
            have HWP := Lib.hid hex
            have hgS := hgS.trans hgn
            have hsS := hgS.size
            clear hgn hex
            have hHeld := And.intro (HG1.out.trans hgS) hgS
            refine anyB_takeT (i := 7) (v := ?v182_7) rfl (by kernel_rfl) (by kernel_rfl) (by kernel_rfl) (by kernel_rfl) (fun _ _ _ h => h) (Or.inl ⟨by kernel_rfl, ?y182_7⟩) hHeld.1 (fun _ => hHeld.2) ?r182_7
            case y182_7 => ((intro w hTw; have k0 := (HB1.out.grows hTw).one.1; have k1 := (HB2.out.grows hTw).one.1; have hl1 := (HB1.out.grows hTw).lt; have hl2 := (HB2.out.grows hTw).lt; clear hTw; go_simp); (try go_ints); (try with_reducible rfl))
            try simp only [Act.put, List.getElem_toArray, List.getElem_cons_succ, List.getElem_cons_zero, List.setIfInBounds_toArray, List.set_cons_zero, List.set_cons_succ]
            refine anyB_over (i := 9) (by kernel_rfl) rfl (by kernel_rfl) (fun K hK => ?_)
            simp only [List.getElem_toArray, List.getElem_cons_succ, List.getElem_cons_zero]
            obtain ⟨m0, m1, m2, m3⟩ := HQB.out.four
            obtain ⟨n0, n1, n2, n3⟩ := HQB.out.four'
            have hlq := HQB.out.lt
            go_simp
            skip
            refine hK.out _ _ ?_ ?_
            · ((try dsimp only); exact (by repeat' (first | (with_reducible exact HG1.out.trans hgS) | (with_reducible exact HG1.out.trans (hgS.trans hgc)) | (with_reducible refine Grows.setCell ?_ (Nat.le_refl _) _) | (with_reducible refine Grows.setCell ?_ (by omega) _) | (with_reducible refine Grows.alloc ?_ _) | (with_reducible refine Grows.drew ?_) | (with_reducible refine Grows.ext ?_ _ _))))
            clear hK K hHeld
            intro hHeld
            try simp only [Act.put, List.getElem_toArray, List.getElem_cons_succ, List.getElem_cons_zero, List.setIfInBounds_toArray, List.set_cons_zero, List.set_cons_succ]
            refine anyB_done (by kernel_rfl) ?_ _
            try clear hHeld
            go_wp2_with fail
            go_meet
            case rel =>
              refine ⟨_, _, _, rfl, ?_, HQB.out.set4, ?_⟩
              · exact Grows.set4 hgS (by omega) _ _ _ _
              · exact pair_lay HKP.out HWP.out HQB.out (exc_fresh (k := W2.heap.size) HS.out (by omega) (by omega) _ (by omega)) (exc_fresh (k := W2.heap.size) HS.out (by omega) (by omega) _ (by omega)) _ _ _ _
          · simp only [List.getElem_toArray, List.getElem_cons_succ, List.getElem_cons_zero]
            go_simp
            skip
            refine hK.out _ _ ⟨?_, ?_⟩ ?_
            · ((try dsimp only); exact HG1.out.trans (hgS.trans (by repeat' (first | (with_reducible exact hgc) | (with_reducible exact Grows.refl _) | (with_reducible refine Grows.alloc ?_ _) | (with_reducible refine Grows.drew ?_) | (with_reducible refine Grows.ext ?_ _ _)))))
            · ((try dsimp only); exact hgS.trans (by repeat' (first | (with_reducible exact hgc) | (with_reducible exact Grows.refl _) | (with_reducible refine Grows.alloc ?_ _) | (with_reducible refine Grows.drew ?_) | (with_reducible refine Grows.ext ?_ _ _))))
            clear hK K hHeld
            intro hHeld
            try simp only [Act.put, List.getElem_toArray, List.getElem_cons_succ, List.getElem_cons_zero, List.setIfInBounds_toArray, List.set_cons_zero, List.set_cons_succ]
            refine abs_anyB (fun W' => Grows X179 W' ∧ Blk W' _ 3 #[.int .i64 1, .int .i64 1]) ⟨(by repeat' (first | (with_reducible exact hgc) | (with_reducible exact Grows.refl _) | (with_reducible refine Grows.alloc ?_ _) | (with_reducible refine Grows.drew ?_) | (with_reducible refine Grows.ext ?_ _ _))), Blk.new rfl⟩ ?_
            clear hHeld
            rintro X183 ⟨hgn, hex⟩
            have HQB := Lib.hid (HQB.out.grows hgn)
            have HWP := Lib.hid hex
            have hgS := hgS.trans hgn
            have hsS := hgS.size
            clear hgn hex
            have hHeld := And.intro (HG1.out.trans hgS) hgS
            refine anyB_ready (i := 5) (by kernel_rfl) rfl (fun K hK => ?_)
            simp only [List.getElem_toArray, List.getElem_cons_succ, List.getElem_cons_zero]
            go_simp
            skip
            refine hK.out _ _ ⟨?_, ?_⟩ ?_
            · ((try dsimp only); exact HG1.out.trans (hgS.trans (by repeat' (first | (with_reducible exact hgc) | (with_reducible exact Grows.refl _) | (with_reducible refine Grows.alloc ?_ _) | (with_reducible refine Grows.drew ?_) | (with_reducible refine Grows.ext ?_ _ _)))))
            · ((try dsimp only); exact hgS.trans (by repeat' (first | (with_reducible exact hgc) | (with_reducible exact Grows.refl _) | (with_reducible refine Grows.alloc ?_ _) | (with_reducible refine Grows.drew ?_) | (with_reducible refine Grows.ext ?_ _ _))))
            clear hK K hHeld
            intro hHeld
            try simp only [Act.put, List.getElem_toArray, List.getElem_cons_succ, List.getElem_cons_zero, List.setIfInBounds_toArray, List.set_cons_zero, List.set_cons_succ]
            refine abs_anyB (fun W' => Grows X183 W' ∧ Blk W' _ 25 #[.int .i64 1, .int .i64 pane, .slice none 0 0, .slice none 0 0, .int .i64 1, .int .i64 fresh, .slice none 0 0, .slice none 0 0]) ⟨(by repeat' (first | (with_reducible exact hgc) | (with_reducible exact Grows.refl _) | (with_reducible refine Grows.alloc ?_ _) | (with_reducible refine Grows.drew ?_) | (with_reducible refine Grows.ext ?_ _ _))), Blk.new rfl⟩ ?_
            clear hHeld
            rintro X184 ⟨hgn, hex⟩
            have HWP := Lib.hid (HWP.out.grows hgn)
            have HQB := Lib.hid (HQB.out.grows hgn)
            have HKP := Lib.hid hex
            have hgS := hgS.trans hgn
            have hsS := hgS.size
            clear hgn hex
            have hHeld := And.intro (HG1.out.trans hgS) hgS
            refine anyB_takeT (i := 7) (v := ?v185_7) rfl (by kernel_rfl) (by kernel_rfl) (by kernel_rfl) (by kernel_rfl) (fun _ _ _ h => h) (Or.inl ⟨by kernel_rfl, ?y185_7⟩) hHeld.1 (fun _ => hHeld.2) ?r185_7
            case y185_7 => ((intro w hTw; have k0 := (HB1.out.grows hTw).one.1; have k1 := (HB2.out.grows hTw).one.1; have hl1 := (HB1.out.grows hTw).lt; have hl2 := (HB2.out.grows hTw).lt; clear hTw; go_simp); (try go_ints); (try with_reducible rfl))
            try simp only [Act.put, List.getElem_toArray, List.getElem_cons_succ, List.getElem_cons_zero, List.setIfInBounds_toArray, List.set_cons_zero, List.set_cons_succ]
            refine anyB_over (i := 9) (by kernel_rfl) rfl (by kernel_rfl) (fun K hK => ?_)
            simp only [List.getElem_toArray, List.getElem_cons_succ, List.getElem_cons_zero]
            obtain ⟨m0, m1, m2, m3⟩ := HQB.out.four
            obtain ⟨n0, n1, n2, n3⟩ := HQB.out.four'
            have hlq := HQB.out.lt
            go_simp
            skip
            refine hK.out _ _ ?_ ?_
            · ((try dsimp only); exact (by repeat' (first | (with_reducible exact HG1.out.trans hgS) | (with_reducible exact HG1.out.trans (hgS.trans hgc)) | (with_reducible refine Grows.setCell ?_ (Nat.le_refl _) _) | (with_reducible refine Grows.setCell ?_ (by omega) _) | (with_reducible refine Grows.alloc ?_ _) | (with_reducible refine Grows.drew ?_) | (with_reducible refine Grows.ext ?_ _ _))))
            clear hK K hHeld
            intro hHeld
            try simp only [Act.put, List.getElem_toArray, List.getElem_cons_succ, List.getElem_cons_zero, List.setIfInBounds_toArray, List.set_cons_zero, List.set_cons_succ]
            refine anyB_done (by kernel_rfl) ?_ _
            try clear hHeld
            go_wp2_with fail
            go_meet
            case rel =>
              refine ⟨_, _, _, rfl, ?_, HQB.out.set4, ?_⟩
              · exact Grows.set4 hgS (by omega) _ _ _ _
              · exact pair_lay HKP.out HWP.out HQB.out (exc_fresh (k := W2.heap.size) HS.out (by omega) (by omega) _ (by omega)) (exc_fresh (k := W2.heap.size) HS.out (by omega) (by omega) _ (by omega)) _ _ _ _
        · simp only [List.getElem_toArray, List.getElem_cons_succ, List.getElem_cons_zero]
          go_simp
          skip
          refine hK.out _ _ ⟨?_, ?_⟩ ?_
          · ((try dsimp only); exact HG1.out.trans (hgS.trans (by repeat' (first | (with_reducible exact hgc) | (with_reducible exact Grows.refl _) | (with_reducible refine Grows.alloc ?_ _) | (with_reducible refine Grows.drew ?_) | (with_reducible refine Grows.ext ?_ _ _)))))
          · ((try dsimp only); exact hgS.trans (by repeat' (first | (with_reducible exact hgc) | (with_reducible exact Grows.refl _) | (with_reducible refine Grows.alloc ?_ _) | (with_reducible refine Grows.drew ?_) | (with_reducible refine Grows.ext ?_ _ _))))
          clear hK K hHeld
          intro hHeld
          try simp only [Act.put, List.getElem_toArray, List.getElem_cons_succ, List.getElem_cons_zero, List.setIfInBounds_toArray, List.set_cons_zero, List.set_cons_succ]
          refine abs_anyB (fun W' => Grows X178 W' ∧ Blk W' _ 3 #[.int .i64 1, .int .i64 1]) ⟨(by repeat' (first | (with_reducible exact hgc) | (with_reducible exact Grows.refl _) | (with_reducible refine Grows.alloc ?_ _) | (with_reducible refine Grows.drew ?_) | (with_reducible refine Grows.ext ?_ _ _))), Blk.new rfl⟩ ?_
          clear hHeld
          rintro X186 ⟨hgn, hex⟩
          have HQB := Lib.hid (HQB.out.grows hgn)
          have HWP := Lib.hid hex
          have hgS := hgS.trans hgn
          have hsS := hgS.size
          clear hgn hex
          have hHeld := And.intro (HG1.out.trans hgS) hgS
          refine anyB_ready (i := 4) (by kernel_rfl) rfl (fun K hK => ?_)
          simp only [List.getElem_toArray, List.getElem_cons_succ, List.getElem_cons_zero]
          go_simp
          (go_at_call 63; (with_reducible refine (leaf_any _ _).mono ?_); rintro e w6 ⟨rfl, h6, d6, rfl⟩)
          refine hK.out _ _ ⟨?_, ?_⟩ ?_
          · ((try dsimp only); exact HG1.out.trans (hgS.trans (by repeat' (first | (with_reducible exact hgc) | (with_reducible exact Grows.refl _) | (with_reducible refine Grows.alloc ?_ _) | (with_reducible refine Grows.drew ?_) | (with_reducible refine Grows.ext ?_ _ _)))))
          · ((try dsimp only); exact hgS.trans (by repeat' (first | (with_reducible exact hgc) | (with_reducible exact Grows.refl _) | (with_reducible refine Grows.alloc ?_ _) | (with_reducible refine Grows.drew ?_) | (with_reducible refine Grows.ext ?_ _ _))))
          clear hK K hHeld
          intro hHeld
          try simp only [Act.put, List.getElem_toArray, List.getElem_cons_succ, List.getElem_cons_zero, List.setIfInBounds_toArray, List.set_cons_zero, List.set_cons_succ]
          refine abs_anyB (fun W' => Grows X186 W' ∧ True) ⟨(by repeat' (first | (with_reducible exact hgc) | (with_reducible exact Grows.refl _) | (with_reducible refine Grows.alloc ?_ _) | (with_reducible refine Grows.drew ?_) | (with_reducible refine Grows.ext ?_ _ _))), trivial⟩ ?_
          clear hHeld
          rintro X187 ⟨hgn, hex⟩
          have HWP := Lib.hid (HWP.out.grows hgn)
          have HQB := Lib.hid (HQB.out.grows hgn)
          have hgS := hgS.trans hgn
          have hsS := hgS.size
          clear hgn hex
          have hHeld := And.intro (HG1.out.trans hgS) hgS
          refine anyB_ready (i := 5) (by kernel_rfl) rfl (fun K hK => ?_)
          simp only [List.getElem_toArray, List.getElem_cons_succ, List.getElem_cons_zero]
          go_simp
          skip
          refine hK.out _ _ ⟨?_, ?_⟩ ?_
          · ((try dsimp only); exact HG1.out.trans (hgS.trans (by repeat' (first | (with_reducible exact hgc) | (with_reducible exact Grows.refl _) | (with_reducible refine Grows.alloc ?_ _) | (with_reducible refine Grows.drew ?_) | (with_reducible refine Grows.ext ?_ _ _)))))
          · ((try dsimp only); exact hgS.trans (by repeat' (first | (with_reducible exact hgc) | (with_reducible exact Grows.refl _) | (with_reducible refine Grows.alloc ?_ _) | (with_reducible refine Grows.drew ?_) | (with_reducible refine Grows.ext ?_ _ _))))
          clear hK K hHeld
          intro hHeld
          try simp only [Act.put, List.getElem_toArray, List.getElem_cons_succ, List.getElem_cons_zero, List.setIfInBounds_toArray, List.set_cons_zero, List.set_cons_succ]
          refine abs_anyB (fun W' => Grows X187 W' ∧ Blk W' _ 25 #[.int .i64 1, .int .i64 pane, .slice none 0 0, .slice none 0 0, .int .i64 1, .int .i64 fresh, .slice none 0 0, .slice none 0 0]) ⟨(by repeat' (first | (with_reducible exact hgc) | (with_reducible exact Grows.refl _) | (with_reducible refine Grows.alloc ?_ _) | (with_reducible refine Grows.drew ?_) | (with_reducible refine Grows.ext ?_ _ _))), Blk.new rfl⟩ ?_
          clear hHeld
          rintro X188 ⟨hgn, hex⟩
          have HWP := Lib.hid (HWP.out.grows hgn)
          have HQB := Lib.hid (HQB.out.grows hgn)
          have HKP := Lib.hid hex
          have hgS := hgS.trans hgn
          have hsS := hgS.size
          clear hgn hex
          have hHeld := And.intro (HG1.out.trans hgS) hgS
          refine anyB_takeT (i := 7) (v := ?v189_7) rfl (by kernel_rfl) (by kernel_rfl) (by kernel_rfl) (by kernel_rfl) (fun _ _ _ h => h) (Or.inl ⟨by kernel_rfl, ?y189_7⟩) hHeld.1 (fun _ => hHeld.2) ?r189_7
          case y189_7 => ((intro w hTw; have k0 := (HB1.out.grows hTw).one.1; have k1 := (HB2.out.grows hTw).one.1; have hl1 := (HB1.out.grows hTw).lt; have hl2 := (HB2.out.grows hTw).lt; clear hTw; go_simp); (try go_ints); (try with_reducible rfl))
          try simp only [Act.put, List.getElem_toArray, List.getElem_cons_succ, List.getElem_cons_zero, List.setIfInBounds_toArray, List.set_cons_zero, List.set_cons_succ]
          refine anyB_over (i := 9) (by kernel_rfl) rfl (by kernel_rfl) (fun K hK => ?_)
          simp only [List.getElem_toArray, List.getElem_cons_succ, List.getElem_cons_zero]
          obtain ⟨m0, m1, m2, m3⟩ := HQB.out.four
          obtain ⟨n0, n1, n2, n3⟩ := HQB.out.four'
          have hlq := HQB.out.lt
          go_simp
          skip
          refine hK.out _ _ ?_ ?_
          · ((try dsimp only); exact (by repeat' (first | (with_reducible exact HG1.out.trans hgS) | (with_reducible exact HG1.out.trans (hgS.trans hgc)) | (with_reducible refine Grows.setCell ?_ (Nat.le_refl _) _) | (with_reducible refine Grows.setCell ?_ (by omega) _) | (with_reducible refine Grows.alloc ?_ _) | (with_reducible refine Grows.drew ?_) | (with_reducible refine Grows.ext ?_ _ _))))
          clear hK K hHeld
          intro hHeld
          try simp only [Act.put, List.getElem_toArray, List.getElem_cons_succ, List.getElem_cons_zero, List.setIfInBounds_toArray, List.set_cons_zero, List.set_cons_succ]
          refine anyB_done (by kernel_rfl) ?_ _
          try clear hHeld
          go_wp2_with fail
          go_meet
          case rel =>
            refine ⟨_, _, _, rfl, ?_, HQB.out.set4, ?_⟩
            · exact Grows.set4 hgS (by omega) _ _ _ _
            · exact pair_lay HKP.out HWP.out HQB.out (exc_fresh (k := W2.heap.size) HS.out (by omega) (by omega) _ (by omega)) (exc_fresh (k := W2.heap.size) HS.out (by omega) (by omega) _ (by omega)) _ _ _ _
    · simp only [List.getElem_toArray, List.getElem_cons_succ, List.getElem_cons_zero]
      go_simp
      skip
      refine hK.out _ _ ⟨?_, ?_⟩ ?_
      · ((try dsimp only); exact HG1.out.trans (hgS.trans (by repeat' (first | (with_reducible exact hgc) | (with_reducible exact Grows.refl _) | (with_reducible refine Grows.alloc ?_ _) | (with_reducible refine Grows.drew ?_) | (with_reducible refine Grows.ext ?_ _ _)))))
      · ((try dsimp only); exact hgS.trans (by repeat' (first | (with_reducible exact hgc) | (with_reducible exact Grows.refl _) | (with_reducible refine Grows.alloc ?_ _) | (with_reducible refine Grows.drew ?_) | (with_reducible refine Grows.ext ?_ _ _))))
      clear hK K hHeld
      intro hHeld
      try simp only [Act.put, List.getElem_toArray, List.getElem_cons_succ, List.getElem_cons_zero, List.setIfInBounds_toArray, List.set_cons_zero, List.set_cons_succ]
      refine abs_anyB (fun W' => Grows X139 W' ∧ Blk W' _ 3 #[.int .i64 1, .int .i64 1]) ⟨(by repeat' (first | (with_reducible exact hgc) | (with_reducible exact Grows.refl _) | (with_reducible refine Grows.alloc ?_ _) | (with_reducible refine Grows.drew ?_) | (with_reducible refine Grows.ext ?_ _ _))), Blk.new rfl⟩ ?_
      clear hHeld
      rintro X190 ⟨hgn, hex⟩
      have HWP := Lib.hid hex
      have hgS := hgS.trans hgn
      have hsS := hgS.size
      clear hgn hex
      have hHeld := And.intro (HG1.out.trans hgS) hgS
      refine anyB_ready2 (i := 2) (j := 8) (by kernel_rfl) rfl rfl (fun K hK => ?_) (fun K hK => ?_)
      · simp only [List.getElem_toArray, List.getElem_cons_succ, List.getElem_cons_zero]
        go_simp
        (go_at_call 63; (with_reducible refine (leaf_any _ _).mono ?_); rintro e w6 ⟨rfl, h6, d6, rfl⟩)
        refine hK.out _ _ ⟨?_, ?_⟩ ?_
        · ((try dsimp only); exact HG1.out.trans (hgS.trans (by repeat' (first | (with_reducible exact hgc) | (with_reducible exact Grows.refl _) | (with_reducible refine Grows.alloc ?_ _) | (with_reducible refine Grows.drew ?_) | (with_reducible refine Grows.ext ?_ _ _)))))
        · ((try dsimp only); exact hgS.trans (by repeat' (first | (with_reducible exact hgc) | (with_reducible exact Grows.refl _) | (with_reducible refine Grows.alloc ?_ _) | (with_reducible refine Grows.drew ?_) | (with_reducible refine Grows.ext ?_ _ _))))
        clear hK K hHeld
        intro hHeld
        try simp only [Act.put, List.getElem_toArray, List.getElem_cons_succ, List.getElem_cons_zero, List.setIfInBounds_toArray, List.set_cons_zero, List.set_cons_succ]
        refine abs_anyB (fun W' => Grows X190 W' ∧ True) ⟨(by repeat' (first | (with_reducible exact hgc) | (with_reducible exact Grows.refl _) | (with_reducible refine Grows.alloc ?_ _) | (with_reducible refine Grows.drew ?_) | (with_reducible refine Grows.ext ?_ _ _))), trivial⟩ ?_
        clear hHeld
        rintro X191 ⟨hgn, hex⟩
        have HWP := Lib.hid (HWP.out.grows hgn)
        have hgS := hgS.trans hgn
        have hsS := hgS.size
        clear hgn hex
        have hHeld := And.intro (HG1.out.trans hgS) hgS
        refine anyB_ready2 (i := 4) (j := 8) (by kernel_rfl) rfl rfl (fun K hK => ?_) (fun K hK => ?_)
        · simp only [List.getElem_toArray, List.getElem_cons_succ, List.getElem_cons_zero]
          go_simp
          (go_at_call 63; (with_reducible refine (leaf_any _ _).mono ?_); rintro e w6 ⟨rfl, h6, d6, rfl⟩)
          refine hK.out _ _ ⟨?_, ?_⟩ ?_
          · ((try dsimp only); exact HG1.out.trans (hgS.trans (by repeat' (first | (with_reducible exact hgc) | (with_reducible exact Grows.refl _) | (with_reducible refine Grows.alloc ?_ _) | (with_reducible refine Grows.drew ?_) | (with_reducible refine Grows.ext ?_ _ _)))))
          · ((try dsimp only); exact hgS.trans (by repeat' (first | (with_reducible exact hgc) | (with_reducible exact Grows.refl _) | (with_reducible refine Grows.alloc ?_ _) | (with_reducible refine Grows.drew ?_) | (with_reducible refine Grows.ext ?_ _ _))))
          clear hK K hHeld
          intro hHeld
          try simp only [Act.put, List.getElem_toArray, List.getElem_cons_succ, List.getElem_cons_zero, List.setIfInBounds_toArray, List.set_cons_zero, List.set_cons_succ]
          refine abs_anyB (fun W' => Grows X191 W' ∧ True) ⟨(by repeat' (first | (with_reducible exact hgc) | (with_reducible exact Grows.refl _) | (with_reducible refine Grows.alloc ?_ _) | (with_reducible refine Grows.drew ?_) | (with_reducible refine Grows.ext ?_ _ _))), trivial⟩ ?_
          clear hHeld
          rintro X192 ⟨hgn, hex⟩
          have HWP := Lib.hid (HWP.out.grows hgn)
          have hgS := hgS.trans hgn
          have hsS := hgS.size
          clear hgn hex
          have hHeld := And.intro (HG1.out.trans hgS) hgS
          refine anyB_ready2 (i := 5) (j := 8) (by kernel_rfl) rfl rfl (fun K hK => ?_) (fun K hK => ?_)
          · simp only [List.getElem_toArray, List.getElem_cons_succ, List.getElem_cons_zero]
            go_simp
            skip
            refine hK.out _ _ ⟨?_, ?_⟩ ?_
            · ((try dsimp only); exact HG1.out.trans (hgS.trans (by repeat' (first | (with_reducible exact hgc) | (with_reducible exact Grows.refl _) | (with_reducible refine Grows.alloc ?_ _) | (with_reducible refine Grows.drew ?_) | (with_reducible refine Grows.ext ?_ _ _)))))
            · ((try dsimp only); exact hgS.trans (by repeat' (first | (with_reducible exact hgc) | (with_reducible exact Grows.refl _) | (with_reducible refine Grows.alloc ?_ _) | (with_reducible refine Grows.drew ?_) | (with_reducible refine Grows.ext ?_ _ _))))
            clear hK K hHeld
            intro hHeld
            try simp only [Act.put, List.getElem_toArray, List.getElem_cons_succ, List.getElem_cons_zero, List.setIfInBounds_toArray, List.set_cons_zero, List.set_cons_succ]
            refine abs_anyB (fun W' => Grows X192 W' ∧ Blk W' _ 25 #[.int .i64 1, .int .i64 pane, .slice none 0 0, .slice none 0 0, .int .i64 1, .int .i64 fresh, .slice none 0 0, .slice none 0 0]) ⟨(by repeat' (first | (with_reducible exact hgc) | (with_reducible exact Grows.refl _) | (with_reducible refine Grows.alloc ?_ _) | (with_reducible refine Grows.drew ?_) | (with_reducible refine Grows.ext ?_ _ _))), Blk.new rfl⟩ ?_
            clear hHeld
            rintro X193 ⟨hgn, hex⟩
            have HWP := Lib.hid (HWP.out.grows hgn)
            have HKP := Lib.hid hex
            have hgS := hgS.trans hgn
            have hsS := hgS.size
            clear hgn hex
            have hHeld := And.intro (HG1.out.trans hgS) hgS
            refine anyB_takeT (i := 7) (v := ?v194_7) rfl (by kernel_rfl) (by kernel_rfl) (by kernel_rfl) (by kernel_rfl) (fun _ _ _ h => h) (Or.inl ⟨by kernel_rfl, ?y194_7⟩) hHeld.1 (fun _ => hHeld.2) ?r194_7
            case y194_7 => ((intro w hTw; have k0 := (HB1.out.grows hTw).one.1; have k1 := (HB2.out.grows hTw).one.1; have hl1 := (HB1.out.grows hTw).lt; have hl2 := (HB2.out.grows hTw).lt; clear hTw; go_simp); (try go_ints); (try with_reducible rfl))
            try simp only [Act.put, List.getElem_toArray, List.getElem_cons_succ, List.getElem_cons_zero, List.setIfInBounds_toArray, List.set_cons_zero, List.set_cons_succ]
            refine anyB_ready (i := 8) (by kernel_rfl) rfl (fun K hK => ?_)
            simp only [List.getElem_toArray, List.getElem_cons_succ, List.getElem_cons_zero]
            go_simp
            skip
            refine hK.out _ _ ⟨?_, ?_⟩ ?_
            · ((try dsimp only); exact HG1.out.trans (hgS.trans (by repeat' (first | (with_reducible exact hgc) | (with_reducible exact Grows.refl _) | (with_reducible refine Grows.alloc ?_ _) | (with_reducible refine Grows.drew ?_) | (with_reducible refine Grows.ext ?_ _ _)))))
            · ((try dsimp only); exact hgS.trans (by repeat' (first | (with_reducible exact hgc) | (with_reducible exact Grows.refl _) | (with_reducible refine Grows.alloc ?_ _) | (with_reducible refine Grows.drew ?_) | (with_reducible refine Grows.ext ?_ _ _))))
            clear hK K hHeld
            intro hHeld
            try simp only [Act.put, List.getElem_toArray, List.getElem_cons_succ, List.getElem_cons_zero, List.setIfInBounds_toArray, List.set_cons_zero, List.set_cons_succ]
            refine abs_anyB (fun W' => Grows X193 W' ∧ Blk W' _ 25 #[.int .i64 0, .int .i64 0, .slice none 0 0, .slice none 0 0]) ⟨(by repeat' (first | (with_reducible exact hgc) | (with_reducible exact Grows.refl _) | (with_reducible refine Grows.alloc ?_ _) | (with_reducible refine Grows.drew ?_) | (with_reducible refine Grows.ext ?_ _ _))), Blk.new rfl⟩ ?_
            clear hHeld
            rintro X195 ⟨hgn, hex⟩
            have HKP := Lib.hid (HKP.out.grows hgn)
            have HWP := Lib.hid (HWP.out.grows hgn)
            have HQB := Lib.hid hex
            have hgS := hgS.trans hgn
            have hsS := hgS.size
            clear hgn hex
            have hHeld := And.intro (HG1.out.trans hgS) hgS
            refine anyB_over (i := 9) (by kernel_rfl) rfl (by kernel_rfl) (fun K hK => ?_)
            simp only [List.getElem_toArray, List.getElem_cons_succ, List.getElem_cons_zero]
            obtain ⟨m0, m1, m2, m3⟩ := HQB.out.four
            obtain ⟨n0, n1, n2, n3⟩ := HQB.out.four'
            have hlq := HQB.out.lt
            go_simp
            skip
            refine hK.out _ _ ?_ ?_
            · ((try dsimp only); exact (by repeat' (first | (with_reducible exact HG1.out.trans hgS) | (with_reducible exact HG1.out.trans (hgS.trans hgc)) | (with_reducible refine Grows.setCell ?_ (Nat.le_refl _) _) | (with_reducible refine Grows.setCell ?_ (by omega) _) | (with_reducible refine Grows.alloc ?_ _) | (with_reducible refine Grows.drew ?_) | (with_reducible refine Grows.ext ?_ _ _))))
            clear hK K hHeld
            intro hHeld
            try simp only [Act.put, List.getElem_toArray, List.getElem_cons_succ, List.getElem_cons_zero, List.setIfInBounds_toArray, List.set_cons_zero, List.set_cons_succ]
            refine anyB_done (by kernel_rfl) ?_ _
            try clear hHeld
            go_wp2_with fail
            go_meet
            case rel =>
              refine ⟨_, _, _, rfl, ?_, HQB.out.set4, ?_⟩
              · exact Grows.set4 hgS (by omega) _ _ _ _
              · exact pair_lay HKP.out HWP.out HQB.out (exc_fresh (k := W2.heap.size) HS.out (by omega) (by omega) _ (by omega)) (exc_fresh (k := W2.heap.size) HS.out (by omega) (by omega) _ (by omega)) _ _ _ _
          · simp only [List.getElem_toArray, List.getElem_cons_succ, List.getElem_cons_zero]
            go_simp
            skip
            refine hK.out _ _ ⟨?_, ?_⟩ ?_
            · ((try dsimp only); exact HG1.out.trans (hgS.trans (by repeat' (first | (with_reducible exact hgc) | (with_reducible exact Grows.refl _) | (with_reducible refine Grows.alloc ?_ _) | (with_reducible refine Grows.drew ?_) | (with_reducible refine Grows.ext ?_ _ _)))))
            · ((try dsimp only); exact hgS.trans (by repeat' (first | (with_reducible exact hgc) | (with_reducible exact Grows.refl _) | (with_reducible refine Grows.alloc ?_ _) | (with_reducible refine Grows.drew ?_) | (with_reducible refine Grows.ext ?_ _ _))))
            clear hK K hHeld
            intro hHeld
            try simp only [Act.put, List.getElem_toArray, List.getElem_cons_succ, List.getElem_cons_zero, List.setIfInBounds_toArray, List.set_cons_zero, List.set_cons_succ]
            refine abs_anyB (fun W' => Grows X192 W' ∧ Blk W' _ 25 #[.int .i64 0, .int .i64 0, .slice none 0 0, .slice none 0 0]) ⟨(by repeat' (first | (with_reducible exact hgc) | (with_reducible exact Grows.refl _) | (with_reducible refine Grows.alloc ?_ _) | (with_reducible refine Grows.drew ?_) | (with_reducible refine Grows.ext ?_ _ _))), Blk.new rfl⟩ ?_
            clear hHeld
            rintro X196 ⟨hgn, hex⟩
            have HWP := Lib.hid (HWP.out.grows hgn)
            have HQB := Lib.hid hex
            have hgS := hgS.trans hgn
            have hsS := hgS.size
            clear hgn hex
            have hHeld := And.intro (HG1.out.trans hgS) hgS
            refine anyB_ready (i := 5) (by kernel_rfl) rfl (fun K hK => ?_)
            simp only [List.getElem_toArray, List.getElem_cons_succ, List.getElem_cons_zero]
            go_simp
            skip
            refine hK.out _ _ ⟨?_, ?_⟩ ?_
            · ((try dsimp only); exact HG1.out.trans (hgS.trans (by repeat' (first | (with_reducible exact hgc) | (with_reducible exact Grows.refl _) | (with_reducible refine Grows.alloc ?_ _) | (with_reducible refine Grows.drew ?_) | (with_reducible refine Grows.ext ?_ _ _)))))
            · ((try dsimp only); exact hgS.trans (by repeat' (first | (with_reducible exact hgc) | (with_reducible exact Grows.refl _) | (with_reducible refine Grows.alloc ?_ _) | (with_reducible refine Grows.drew ?_) | (with_reducible refine Grows.ext ?_ _ _))))
            clear hK K hHeld
            intro hHeld
            try simp only [Act.put, List.getElem_toArray, List.getElem_cons_succ, List.getElem_cons_zero, List.setIfInBounds_toArray, List.set_cons_zero, List.set_cons_succ]
            refine abs_anyB (fun W' => Grows X196 W' ∧ Blk W' _ 25 #[.int .i64 1, .int .i64 pane, .slice none 0 0, .slice none 0 0, .int .i64 1, .int .i64 fresh, .slice none 0 0, .slice none 0 0]) ⟨(by repeat' (first | (with_reducible exact hgc) | (with_reducible exact Grows.refl _) | (with_reducible refine Grows.alloc ?_ _) | (with_reducible refine Grows.drew ?_) | (with_reducible refine Grows.ext ?_ _ _))), Blk.new rfl⟩ ?_
            clear hHeld
            rintro X197 ⟨hgn, hex⟩
            have HWP := Lib.hid (HWP.out.grows hgn)
            have HQB := Lib.hid (HQB.out.grows hgn)
            have HKP := Lib.hid hex
            have hgS := hgS.trans hgn
            have hsS := hgS.size
            clear hgn hex
            have hHeld := And.intro (HG1.out.trans hgS) hgS
            refine anyB_takeT (i := 7) (v := ?v198_7) rfl (by kernel_rfl) (by kernel_rfl) (by kernel_rfl) (by kernel_rfl) (fun _ _ _ h => h) (Or.inl ⟨by kernel_rfl, ?y198_7⟩) hHeld.1 (fun _ => hHeld.2) ?r198_7
            case y198_7 => ((intro w hTw; have k0 := (HB1.out.grows hTw).one.1; have k1 := (HB2.out.grows hTw).one.1; have hl1 := (HB1.out.grows hTw).lt; have hl2 := (HB2.out.grows hTw).lt; clear hTw; go_simp); (try go_ints); (try with_reducible rfl))
            try simp only [Act.put, List.getElem_toArray, List.getElem_cons_succ, List.getElem_cons_zero, List.setIfInBounds_toArray, List.set_cons_zero, List.set_cons_succ]
            refine anyB_over (i := 9) (by kernel_rfl) rfl (by kernel_rfl) (fun K hK => ?_)
            simp only [List.getElem_toArray, List.getElem_cons_succ, List.getElem_cons_zero]
            obtain ⟨m0, m1, m2, m3⟩ := HQB.out.four
            obtain ⟨n0, n1, n2, n3⟩ := HQB.out.four'
            have hlq := HQB.out.lt
            go_simp
            skip
            refine hK.out _ _ ?_ ?_
            · ((try dsimp only); exact (by repeat' (first | (with_reducible exact HG1.out.trans hgS) | (with_reducible exact HG1.out.trans (hgS.trans hgc)) | (with_reducible refine Grows.setCell ?_ (Nat.le_refl _) _) | (with_reducible refine Grows.setCell ?_ (by omega) _) | (with_reducible refine Grows.alloc ?_ _) | (with_reducible refine Grows.drew ?_) | (with_reducible refine Grows.ext ?_ _ _))))
            clear hK K hHeld
            intro hHeld
            try simp only [Act.put, List.getElem_toArray, List.getElem_cons_succ, List.getElem_cons_zero, List.setIfInBounds_toArray, List.set_cons_zero, List.set_cons_succ]
            refine anyB_done (by kernel_rfl) ?_ _
            try clear hHeld
            go_wp2_with fail
            go_meet
            case rel =>
              refine ⟨_, _, _, rfl, ?_, HQB.out.set4, ?_⟩
              · exact Grows.set4 hgS (by omega) _ _ _ _
              · exact pair_lay HKP.out HWP.out HQB.out (exc_fresh (k := W2.heap.size) HS.out (by omega) (by omega) _ (by omega)) (exc_fresh (k := W2.heap.size) HS.out (by omega) (by omega) _ (by omega)) _ _ _ _
        · simp only [List.getElem_toArray, List.getElem_cons_succ, List.getElem_cons_zero]
          go_simp
          skip
          refine hK.out _ _ ⟨?_, ?_⟩ ?_
          · ((try dsimp only); exact HG1.out.trans (hgS.trans (by repeat' (first | (with_reducible exact hgc) | (with_reducible exact Grows.refl _) | (with_reducible refine Grows.alloc ?_ _) | (with_reducible refine Grows.drew ?_) | (with_reducible refine Grows.ext ?_ _ _)))))
          · ((try dsimp only); exact hgS.trans (by repeat' (first | (with_reducible exact hgc) | (with_reducible exact Grows.refl _) | (with_reducible refine Grows.alloc ?_ _) | (with_reducible refine Grows.drew ?_) | (with_reducible refine Grows.ext ?_ _ _))))
          clear hK K hHeld
          intro hHeld
          try simp only [Act.put, List.getElem_toArray, List.getElem_cons_succ, List.getElem_cons_zero, List.setIfInBounds_toArray, List.set_cons_zero, List.set_cons_succ]
          refine abs_anyB (fun W' => Grows X191 W' ∧ Blk W' _ 25 #[.int .i64 0, .int .i64 0, .slice none 0 0, .slice none 0 0]) ⟨(by repeat' (first | (with_reducible exact hgc) | (with_reducible exact Grows.refl _) | (with_reducible refine Grows.alloc ?_ _) | (with_reducible refine Grows.drew ?_) | (with_reducible refine Grows.ext ?_ _ _))), Blk.new rfl⟩ ?_
          clear hHeld
          rintro X199 ⟨hgn, hex⟩
          have HWP := Lib.hid (HWP.out.grows hgn)
          have HQB := Lib.hid hex
          have hgS := hgS.trans hgn
          have hsS := hgS.size
          clear hgn hex
          have hHeld := And.intro (HG1.out.trans hgS) hgS
          refine anyB_ready (i := 4) (by kernel_rfl) rfl (fun K hK => ?_)
          simp only [List.getElem_toArray, List.getElem_cons_succ, List.getElem_cons_zero]
          go_simp
          (go_at_call 63; (with_reducible refine (leaf_any _ _).mono ?_); rintro e w6 ⟨rfl, h6, d6, rfl⟩)
          refine hK.out _ _ ⟨?_, ?_⟩ ?_
          · ((try dsimp only); exact HG1.out.trans (hgS.trans (by repeat' (first | (with_reducible exact hgc) | (with_reducible exact Grows.refl _) | (with_reducible refine Grows.alloc ?_ _) | (with_reducible refine Grows.drew ?_) | (with_reducible refine Grows.ext ?_ _ _)))))
          · ((try dsimp only); exact hgS.trans (by repeat' (first | (with_reducible exact hgc) | (with_reducible exact Grows.refl _) | (with_reducible refine Grows.alloc ?_ _) | (with_reducible refine Grows.drew ?_) | (with_reducible refine Grows.ext ?_ _ _))))
          clear hK K hHeld
          intro hHeld
          try simp only [Act.put, List.getElem_toArray, List.getElem_cons_succ, List.getElem_cons_zero, List.setIfInBounds_toArray, List.set_cons_zero, List.set_cons_succ]
          refine abs_anyB (fun W' => Grows X199 W' ∧ True) ⟨(by repeat' (first | (with_reducible exact hgc) | (with_reducible exact Grows.refl _) | (with_reducible refine Grows.alloc ?_ _) | (with_reducible refine Grows.drew ?_) | (with_reducible refine Grows.ext ?_ _ _))), trivial⟩ ?_
          clear hHeld
          rintro X200 ⟨hgn, hex⟩
          have HWP := Lib.hid (HWP.out.grows hgn)
          have HQB := Lib.hid (HQB.out.grows hgn)
          have hgS := hgS.trans hgn
          have hsS := hgS.size
          clear hgn hex
          have hHeld := And.intro (HG1.out.trans hgS) hgS
          refine anyB_ready (i := 5) (by kernel_rfl) rfl (fun K hK => ?_)
          simp only [List.getElem_toArray, List.getElem_cons_succ, List.getElem_cons_zero]
          go_simp
          skip
          refine hK.out _ _ ⟨?_, ?_⟩ ?_
          · ((try dsimp only); exact HG1.out.trans (hgS.trans (by repeat' (first | (with_reducible exact hgc) | (with_reducible exact Grows.refl _) | (with_reducible refine Grows.alloc ?_ _) | (with_reducible refine Grows.drew ?_) | (with_reducible refine Grows.ext ?_ _ _)))))
          · ((try dsimp only); exact hgS.trans (by repeat' (first | (with_reducible exact hgc) | (with_reducible exact Grows.refl _) | (with_reducible refine Grows.alloc ?_ _) | (with_reducible refine Grows.drew ?_) | (with_reducible refine Grows.ext ?_ _ _))))
          clear hK K hHeld
          intro hHeld
          try simp only [Act.put, List.getElem_toArray, List.getElem_cons_succ, List.getElem_cons_zero, List.setIfInBounds_toArray, List.set_cons_zero, List.set_cons_succ]
          refine abs_anyB (fun W' => Grows X200 W' ∧ Blk W' _ 25 #[.int .i64 1, .int .i64 pane, .slice none 0 0, .slice none 0 0, .int .i64 1, .int .i64 fresh, .slice none 0 0, .slice none 0 0]) ⟨(by repeat' (first | (with_reducible exact hgc) | (with_reducible exact Grows.refl _) | (with_reducible refine Grows.alloc ?_ _) | (with_reducible refine Grows.drew ?_) | (with_reducible refine Grows.ext ?_ _ _))), Blk.new rfl⟩ ?_
          clear hHeld
          rintro X201 ⟨hgn, hex⟩
          have HWP := Lib.hid (HWP.out.grows hgn)
          have HQB := Lib.hid (HQB.out.grows hgn)
          have HKP := Lib.hid hex
          have hgS := hgS.trans hgn
          have hsS := hgS.size
          clear hgn hex
          have hHeld := And.intro (HG1.out.trans hgS) hgS
          refine anyB_takeT (i := 7) (v := ?v202_7) rfl (by kernel_rfl) (by kernel_rfl) (by kernel_rfl) (by kernel_rfl) (fun _ _ _ h => h) (Or.inl ⟨by kernel_rfl, ?y202_7⟩) hHeld.1 (fun _ => hHeld.2) ?r202_7
          case y202_7 => ((intro w hTw; have k0 := (HB1.out.grows hTw).one.1; have k1 := (HB2.out.grows hTw).one.1; have hl1 := (HB1.out.grows hTw).lt; have hl2 := (HB2.out.grows hTw).lt; clear hTw; go_simp); (try go_ints); (try with_reducible rfl))
          try simp only [Act.put, List.getElem_toArray, List.getElem_cons_succ, List.getElem_cons_zero, List.setIfInBounds_toArray, List.set_cons_zero, List.set_cons_succ]
          refine anyB_over (i := 9) (by kernel_rfl) rfl (by kernel_rfl) (fun K hK => ?_)
          simp only [List.getElem_toArray, List.getElem_cons_succ, List.getElem_cons_zero]
          obtain ⟨m0, m1, m2, m3⟩ := HQB.out.four
          obtain ⟨n0, n1, n2, n3⟩ := HQB.out.four'
          have hlq := HQB.out.lt
          go_simp
          skip
          refine hK.out _ _ ?_ ?_
          · ((try dsimp only); exact (by repeat' (first | (with_reducible exact HG1.out.trans hgS) | (with_reducible exact HG1.out.trans (hgS.trans hgc)) | (with_reducible refine Grows.setCell ?_ (Nat.le_refl _) _) | (with_reducible refine Grows.setCell ?_ (by omega) _) | (with_reducible refine Grows.alloc ?_ _) | (with_reducible refine Grows.drew ?_) | (with_reducible refine Grows.ext ?_ _ _))))
          clear hK K hHeld
          intro hHeld
          try simp only [Act.put, List.getElem_toArray, List.getElem_cons_succ, List.getElem_cons_zero, List.setIfInBounds_toArray, List.set_cons_zero, List.set_cons_succ]
          refine anyB_done (by kernel_rfl) ?_ _
          try clear hHeld
          go_wp2_with fail
          go_meet
          case rel =>
            refine ⟨_, _, _, rfl, ?_, HQB.out.set4, ?_⟩
            · exact Grows.set4 hgS (by omega) _ _ _ _
            · exact pair_lay HKP.out HWP.out HQB.out (exc_fresh (k := W2.heap.size) HS.out (by omega) (by omega) _ (by omega)) (exc_fresh (k := W2.heap.size) HS.out (by omega) (by omega) _ (by omega)) _ _ _ _
      · simp only [List.getElem_toArray, List.getElem_cons_succ, List.getElem_cons_zero]
        go_simp
        skip
        refine hK.out _ _ ⟨?_, ?_⟩ ?_
        · ((try dsimp only); exact HG1.out.trans (hgS.trans (by repeat' (first | (with_reducible exact hgc) | (with_reducible exact Grows.refl _) | (with_reducible refine Grows.alloc ?_ _) | (with_reducible refine Grows.drew ?_) | (with_reducible refine Grows.ext ?_ _ _)))))
        · ((try dsimp only); exact hgS.trans (by repeat' (first | (with_reducible exact hgc) | (with_reducible exact Grows.refl _) | (with_reducible refine Grows.alloc ?_ _) | (with_reducible refine Grows.drew ?_) | (with_reducible refine Grows.ext ?_ _ _))))
        clear hK K hHeld
        intro hHeld
        try simp only [Act.put, List.getElem_toArray, List.getElem_cons_succ, List.getElem_cons_zero, List.setIfInBounds_toArray, List.set_cons_zero, List.set_cons_succ]
        refine abs_anyB (fun W' => Grows X190 W' ∧ Blk W' _ 25 #[.int .i64 0, .int .i64 0, .slice none 0 0, .slice none 0 0]) ⟨(by repeat' (first | (with_reducible exact hgc) | (with_reducible exact Grows.refl _) | (with_reducible refine Grows.alloc ?_ _) | (with_reducible refine Grows.drew ?_) | (with_reducible refine Grows.ext ?_ _ _))), Blk.new rfl⟩ ?_
        clear hHeld
        rintro X203 ⟨hgn, hex⟩
        have HWP := Lib.hid (HWP.out.grows hgn)
        have HQB := Lib.hid hex
        have hgS := hgS.trans hgn
        have hsS := hgS.size
        clear hgn hex
        have hHeld := And.intro (HG1.out.trans hgS) hgS
        refine anyB_ready (i := 2) (by kernel_rfl) rfl (fun K hK => ?_)
        simp only [List.getElem_toArray, List.getElem_cons_succ, List.getElem_cons_zero]
        go_simp
        (go_at_call 63; (with_reducible refine (leaf_any _ _).mono ?_); rintro e w6 ⟨rfl, h6, d6, rfl⟩)
        refine hK.out _ _ ⟨?_, ?_⟩ ?_
        · ((try dsimp only); exact HG1.out.trans (hgS.trans (by repeat' (first | (with_reducible exact hgc) | (with_reducible exact Grows.refl _) | (with_reducible refine Grows.alloc ?_ _) | (with_reducible refine Grows.drew ?_) | (with_reducible refine Grows.ext ?_ _ _)))))
        · ((try dsimp only); exact hgS.trans (by repeat' (first | (with_reducible exact hgc) | (with_reducible exact Grows.refl _) | (with_reducible refine Grows.alloc ?_ _) | (with_reducible refine Grows.drew ?_) | (with_reducible refine Grows.ext ?_ _ _))))
        clear hK K hHeld
        intro hHeld
        try simp only [Act.put, List.getElem_toArray, List.getElem_cons_succ, List.getElem_cons_zero, List.setIfInBounds_toArray, List.set_cons_zero, List.set_cons_succ]
        refine abs_anyB (fun W' => Grows X203 W' ∧ True) ⟨(by repeat' (first | (with_reducible exact hgc) | (with_reducible exact Grows.refl _) | (with_reducible refine Grows.alloc ?_ _) | (with_reducible refine Grows.drew ?_) | (with_reducible refine Grows.ext ?_ _ _))), trivial⟩ ?_
        clear hHeld
        rintro X204 ⟨hgn, hex⟩
        have HWP := Lib.hid (HWP.out.grows hgn)
        have HQB := Lib.hid (HQB.out.grows hgn)
        have hgS := hgS.trans hgn
        have hsS := hgS.size
        clear hgn hex
        have hHeld := And.intro (HG1.out.trans hgS) hgS
        refine anyB_ready (i := 4) (by kernel_rfl) rfl (fun K hK => ?_)
        simp only [List.getElem_toArray, List.getElem_cons_succ, List.getElem_cons_zero]
        go_simp
        (go_at_call 63; (with_reducible refine (leaf_any _ _).mono ?_); rintro e w6 ⟨rfl, h6, d6, rfl⟩)
        refine hK.out _ _ ⟨?_, ?_⟩ ?_
        · ((try dsimp only); exact HG1.out.trans (hgS.trans (by repeat' (first | (with_reducible exact hgc) | (with_reducible exact Grows.refl _) | (with_reducible refine Grows.alloc ?_ _) | (with_reducible refine Grows.drew ?_) | (with_reducible refine Grows.ext ?_ _ _)))))
        · ((try dsimp only); exact hgS.trans (by repeat' (first | (with_reducible exact hgc) | (with_reducible exact Grows.refl _) | (with_reducible refine Grows.alloc ?_ _) | (with_reducible refine Grows.drew ?_) | (with_reducible refine Grows.ext ?_ _ _))))
        clear hK K hHeld
        intro hHeld
        try simp only [Act.put, List.getElem_toArray, List.getElem_cons_succ, List.getElem_cons_zero, List.setIfInBounds_toArray, List.set_cons_zero, List.set_cons_succ]
        refine abs_anyB (fun W' => Grows X204 W' ∧ True) ⟨(by repeat' (first | (with_reducible exact hgc) | (with_reducible exact Grows.refl _) | (with_reducible refine Grows.alloc ?_ _) | (with_reducible refine Grows.drew ?_) | (with_reducible refine Grows.ext ?_ _ _))), trivial⟩ ?_
        clear hHeld
        rintro X205 ⟨hgn, hex⟩
        have HWP := Lib.hid (HWP.out.grows hgn)
        have HQB := Lib.hid (HQB.out.grows hgn)
        have hgS := hgS.trans hgn
        have hsS := hgS.size
        clear hgn hex
        have hHeld := And.intro (HG1.out.trans hgS) hgS
        refine anyB_ready (i := 5) (by kernel_rfl) rfl (fun K hK => ?_)
        simp only [List.getElem_toArray, List.getElem_cons_succ, List.getElem_cons_zero]
        go_simp
        skip
        refine hK.out _ _ ⟨?_, ?_⟩ ?_
        · ((try dsimp only); exact HG1.out.trans (hgS.trans (by repeat' (first | (with_reducible exact hgc) | (with_reducible exact Grows.refl _) | (with_reducible refine Grows.alloc ?_ _) | (with_reducible refine Grows.drew ?_) | (with_reducible refine Grows.ext ?_ _ _)))))
        · ((try dsimp only); exact hgS.trans (by repeat' (first | (with_reducible exact hgc) | (with_reducible exact Grows.refl _) | (with_reducible refine Grows.alloc ?_ _) | (with_reducible refine Grows.drew ?_) | (with_reducible refine Grows.ext ?_ _ _))))
        clear hK K hHeld
        intro hHeld
        try simp only [Act.put, List.getElem_toArray, List.getElem_cons_succ, List.getElem_cons_zero, List.setIfInBounds_toArray, List.set_cons_zero, List.set_cons_succ]
        refine abs_anyB (fun W' => Grows X205 W' ∧ Blk W' _ 25 #[.int .i64 1, .int .i64 pane, .slice none 0 0, .slice none 0 0, .int .i64 1, .int .i64 fresh, .slice none 0 0, .slice none 0 0]) ⟨(by repeat' (first | (with_reducible exact hgc) | (with_reducible exact Grows.refl _) | (with_reducible refine Grows.alloc ?_ _) | (with_reducible refine Grows.drew ?_) | (with_reducible refine Grows.ext ?_ _ _))), Blk.new rfl⟩ ?_
        clear hHeld
        rintro X206 ⟨hgn, hex⟩
        have HWP := Lib.hid (HWP.out.grows hgn)
        have HQB := Lib.hid (HQB.out.grows hgn)
        have HKP := Lib.hid hex
        have hgS := hgS.trans hgn
        have hsS := hgS.size
        clear hgn hex
        have hHeld := And.intro (HG1.out.trans hgS) hgS
        refine anyB_takeT (i := 7) (v := ?v207_7) rfl (by kernel_rfl) (by kernel_rfl) (by kernel_rfl) (by kernel_rfl) (fun _ _ _ h => h) (Or.inl ⟨by kernel_rfl, ?y207_7⟩) hHeld.1 (fun _ => hHeld.2) ?r207_7
        case y207_7 => ((intro w hTw; have k0 := (HB1.out.grows hTw).one.1; have k1 := (HB2.out.grows hTw).one.1; have hl1 := (HB1.out.grows hTw).lt; have hl2 := (HB2.out.grows hTw).lt; clear hTw; go_simp); (try go_ints); (try with_reducible rfl))
        try simp only [Act.put, List.getElem_toArray, List.getElem_cons_succ, List.getElem_cons_zero, List.setIfInBounds_toArray, List.set_cons_zero, List.set_cons_succ]
        refine anyB_over (i := 9) (by kernel_rfl) rfl (by kernel_rfl) (fun K hK => ?_)
        simp only [List.getElem_toArray, List.getElem_cons_succ, List.getElem_cons_zero]
        obtain ⟨m0, m1, m2, m3⟩ := HQB.out.four
        obtain ⟨n0, n1, n2, n3⟩ := HQB.out.four'
        have hlq := HQB.out.lt
        go_simp
        skip
        refine hK.out _ _ ?_ ?_
        · ((try dsimp only); exact (by repeat' (first | (with_reducible exact HG1.out.trans hgS) | (with_reducible exact HG1.out.trans (hgS.trans hgc)) | (with_reducible refine Grows.setCell ?_ (Nat.le_refl _) _) | (with_reducible refine Grows.setCell ?_ (by omega) _) | (with_reducible refine Grows.alloc ?_ _) | (with_reducible refine Grows.drew ?_) | (with_reducible refine Grows.ext ?_ _ _))))
        clear hK K hHeld
        intro hHeld
        try simp only [Act.put, List.getElem_toArray, List.getElem_cons_succ, List.getElem_cons_zero, List.setIfInBounds_toArray, List.set_cons_zero, List.set_cons_succ]
        refine anyB_done (by kernel_rfl) ?_ _
        try clear hHeld
        go_wp2_with fail
        go_meet
        case rel =>
          refine ⟨_, _, _, rfl, ?_, HQB.out.set4, ?_⟩
          · exact Grows.set4 hgS (by omega) _ _ _ _
          · exact pair_lay HKP.out HWP.out HQB.out (exc_fresh (k := W2.heap.size) HS.out (by omega) (by omega) _ (by omega)) (exc_fresh (k := W2.heap.size) HS.out (by omega) (by omega) _ (by omega)) _ _ _ _
    · simp only [List.getElem_toArray, List.getElem_cons_succ, List.getElem_cons_zero]
      go_simp
      skip
      refine hK.out _ _ ⟨?_, ?_⟩ ?_
      · ((try dsimp only); exact HG1.out.trans (hgS.trans (by repeat' (first | (with_reducible exact hgc) | (with_reducible exact Grows.refl _) | (with_reducible refine Grows.alloc ?_ _) | (with_reducible refine Grows.drew ?_) | (with_reducible refine Grows.ext ?_ _ _)))))
      · ((try dsimp only); exact hgS.trans (by repeat' (first | (with_reducible exact hgc) | (with_reducible exact Grows.refl _) | (with_reducible refine Grows.alloc ?_ _) | (with_reducible refine Grows.drew ?_) | (with_reducible refine Grows.ext ?_ _ _))))
      clear hK K hHeld
      intro hHeld
      try simp only [Act.put, List.getElem_toArray, List.getElem_cons_succ, List.getElem_cons_zero, List.setIfInBounds_toArray, List.set_cons_zero, List.set_cons_succ]
      refine abs_anyB (fun W' => Grows X139 W' ∧ Blk W' _ 25 #[.int .i64 0, .int .i64 0, .slice none 0 0, .slice none 0 0]) ⟨(by repeat' (first | (with_reducible exact hgc) | (with_reducible exact Grows.refl _) | (with_reducible refine Grows.alloc ?_ _) | (with_reducible refine Grows.drew ?_) | (with_reducible refine Grows.ext ?_ _ _))), Blk.new rfl⟩ ?_
      clear hHeld
      rintro X208 ⟨hgn, hex⟩
      have HQB := Lib.hid hex
      have hgS := hgS.trans hgn
      have hsS := hgS.size
      clear hgn hex
      have hHeld := And.intro (HG1.out.trans hgS) hgS
      refine anyB_ready2 (i := 2) (j := 6) (by kernel_rfl) rfl rfl (fun K hK => ?_) (fun K hK => ?_)
      · simp only [List.getElem_toArray, List.getElem_cons_succ, List.getElem_cons_zero]
        go_simp
        (go_at_call 63; (with_reducible refine (leaf_any _ _).mono ?_); rintro e w6 ⟨rfl, h6, d6, rfl⟩)
        refine hK.out _ _ ⟨?_, ?_⟩ ?_
        · ((try dsimp only); exact HG1.out.trans (hgS.trans (by repeat' (first | (with_reducible exact hgc) | (with_reducible exact Grows.refl _) | (with_reducible refine Grows.alloc ?_ _) | (with_reducible refine Grows.drew ?_) | (with_reducible refine Grows.ext ?_ _ _)))))
        · ((try dsimp only); exact hgS.trans (by repeat' (first | (with_reducible exact hgc) | (with_reducible exact Grows.refl _) | (with_reducible refine Grows.alloc ?_ _) | (with_reducible refine Grows.drew ?_) | (with_reducible refine Grows.ext ?_ _ _))))
        clear hK K hHeld
        intro hHeld
        try simp only [Act.put, List.getElem_toArray, List.getElem_cons_succ, List.getElem_cons_zero, List.setIfInBounds_toArray, List.set_cons_zero, List.set_cons_succ]
        refine abs_anyB (fun W' => Grows X208 W' ∧ True) ⟨(by repeat' (first | (with_reducible exact hgc) | (with_reducible exact Grows.refl _) | (with_reducible refine Grows.alloc ?_ _) | (with_reducible refine Grows.drew ?_) | (with_reducible refine Grows.ext ?_ _ _))), trivial⟩ ?_
        clear hHeld
        rintro X209 ⟨hgn, hex⟩
        have HQB := Lib.hid (HQB.out.grows hgn)
        have hgS := hgS.trans hgn
        have hsS := hgS.size
        clear hgn hex
        have hHeld := And.intro (HG1.out.trans hgS) hgS
        refine anyB_ready2 (i := 4) (j := 6) (by kernel_rfl) rfl rfl (fun K hK => ?_) (fun K hK => ?_)
        · simp only [List.getElem_toArray, List.getElem_cons_succ, List.getElem_cons_zero]
          go_simp
          (go_at_call 63; (with_reducible refine (leaf_any _ _).mono ?_); rintro e w6 ⟨rfl, h6, d6, rfl⟩)
          refine hK.out _ _ ⟨?_, ?_⟩ ?_
          · ((try dsimp only); exact HG1.out.trans (hgS.trans (by repeat' (first | (with_reducible exact hgc) | (with_reducible exact Grows.refl _) | (with_reducible refine Grows.alloc ?_ _) | (with_reducible refine Grows.drew ?_) | (with_reducible refine Grows.ext ?_ _ _)))))
          · ((try dsimp only); exact hgS.trans (by repeat' (first | (with_reducible exact hgc) | (with_reducible exact Grows.refl _) | (with_reducible refine Grows.alloc ?_ _) | (with_reducible refine Grows.drew ?_) | (with_reducible refine Grows.ext ?_ _ _))))
          clear hK K hHeld
          intro hHeld
          try simp only [Act.put, List.getElem_toArray, List.getElem_cons_succ, List.getElem_cons_zero, List.setIfInBounds_toArray, List.set_cons_zero, List.set_cons_succ]
          refine abs_anyB (fun W' => Grows X209 W' ∧ True) ⟨(by repeat' (first | (with_reducible exact hgc) | (with_reducible exact Grows.refl _) | (with_reducible refine Grows.alloc ?_ _) | (with_reducible refine Grows.drew ?_) | (with_reducible refine Grows.ext ?_ _ _))), trivial⟩ ?_
          clear hHeld
          rintro X210 ⟨hgn, hex⟩
          have HQB := Lib.hid (HQB.out.grows hgn)
          have hgS := hgS.trans hgn
          have hsS := hgS.size
          clear hgn hex
          have hHeld := And.intro (HG1.out.trans hgS) hgS
          refine anyB_ready2 (i := 5) (j := 6) (by kernel_rfl) rfl rfl (fun K hK => ?_) (fun K hK => ?_)
          · simp only [List.getElem_toArray, List.getElem_cons_succ, List.getElem_cons_zero]
            go_simp
            skip
            refine hK.out _ _ ⟨?_, ?_⟩ ?_
            · ((try dsimp only); exact HG1.out.trans (hgS.trans (by repeat' (first | (with_reducible exact hgc) | (with_reducible exact Grows.refl _) | (with_reducible refine Grows.alloc ?_ _) | (with_reducible refine Grows.drew ?_) | (with_reducible refine Grows.ext ?_ _ _)))))
            · ((try dsimp only); exact hgS.trans (by repeat' (first | (with_reducible exact hgc) | (with_reducible exact Grows.refl _) | (with_reducible refine Grows.alloc ?_ _) | (with_reducible refine Grows.drew ?_) | (with_reducible refine Grows.ext ?_ _ _))))
            clear hK K hHeld
            intro hHeld
            try simp only [Act.put, List.getElem_toArray, List.getElem_cons_succ, List.getElem_cons_zero, List.setIfInBounds_toArray, List.set_cons_zero, List.set_cons_succ]
            refine abs_anyB (fun W' => Grows X210 W' ∧ Blk W' _ 25 #[.int .i64 1, .int .i64 pane, .slice none 0 0, .slice none 0 0, .int .i64 1, .int .i64 fresh, .slice none 0 0, .slice none 0 0]) ⟨(by repeat' (first | (with_reducible exact hgc) | (with_reducible exact Grows.refl _) | (with_reducible refine Grows.alloc ?_ _) | (with_reducible refine Grows.drew ?_) | (with_reducible refine Grows.ext ?_ _ _))), Blk.new rfl⟩ ?_
            clear hHeld
            rintro X211 ⟨hgn, hex⟩
            have HQB := Lib.hid (HQB.out.grows hgn)
            have HKP := Lib.hid hex
            have hgS := hgS.trans hgn
            have hsS := hgS.size
            clear hgn hex
            have hHeld := And.intro (HG1.out.trans hgS) hgS
            refine anyB_ready (i := 6) (by kernel_rfl) rfl (fun K hK => ?_)
            simp only [List.getElem_toArray, List.getElem_cons_succ, List.getElem_cons_zero]
            go_simp
            skip
            refine hK.out _ _ ⟨?_, ?_⟩ ?_
            · ((try dsimp only); exact HG1.out.trans (hgS.trans (by repeat' (first | (with_reducible exact hgc) | (with_reducible exact Grows.refl _) | (with_reducible refine Grows.alloc ?_ _) | (with_reducible refine Grows.drew ?_) | (with_reducible refine Grows.ext ?_ _ _)))))
            · ((try dsimp only); exact hgS.trans (by repeat' (first | (with_reducible exact hgc) | (with_reducible exact Grows.refl _) | (with_reducible refine Grows.alloc ?_ _) | (with_reducible refine Grows.drew ?_) | (with_reducible refine Grows.ext ?_ _ _))))
            clear hK K hHeld
            intro hHeld
            try simp only [Act.put, List.getElem_toArray, List.getElem_cons_succ, List.getElem_cons_zero, List.setIfInBounds_toArray, List.set_cons_zero, List.set_cons_succ]
            refine abs_anyB (fun W' => Grows X211 W' ∧ Blk W' _ 3 #[.int .i64 1, .int .i64 1]) ⟨(by repeat' (first | (with_reducible exact hgc) | (with_reducible exact Grows.refl _) | (with_reducible refine Grows.alloc ?_ _) | (with_reducible refine Grows.drew ?_) | (with_reducible refine Grows.ext ?_ _ _))), Blk.new rfl⟩ ?_
            clear hHeld
            rintro X212 ⟨hgn, hex⟩
            have HKP := Lib.hid (HKP.out.grows hgn)
            have HQB := Lib.hid (HQB.out.grows hgn)
            have HWP := Lib.hid hex
            have hgS := hgS.trans hgn
            have hsS := hgS.size
            clear hgn hex
            have hHeld := And.intro (HG1.out.trans hgS) hgS
            refine anyB_takeT (i := 7) (v := ?v213_7) rfl (by kernel_rfl) (by kernel_rfl) (by kernel_rfl) (by kernel_rfl) (fun _ _ _ h => h) (Or.inl ⟨by kernel_rfl, ?y213_7⟩) hHeld.1 (fun _ => hHeld.2) ?r213_7
            case y213_7 => ((intro w hTw; have k0 := (HB1.out.grows hTw).one.1; have k1 := (HB2.out.grows hTw).one.1; have hl1 := (HB1.out.grows hTw).lt; have hl2 := (HB2.out.grows hTw).lt; clear hTw; go_simp); (try go_ints); (try with_reducible rfl))
            try simp only [Act.put, List.getElem_toArray, List.getElem_cons_succ, List.getElem_cons_zero, List.setIfInBounds_toArray, List.set_cons_zero, List.set_cons_succ]
            refine anyB_over (i := 9) (by kernel_rfl) rfl (by kernel_rfl) (fun K hK => ?_)
            simp only [List.getElem_toArray, List.getElem_cons_succ, List.getElem_cons_zero]
            obtain ⟨m0, m1, m2, m3⟩ := HQB.out.four
            obtain ⟨n0, n1, n2, n3⟩ := HQB.out.four'
            have hlq := HQB.out.lt
            go_simp
            skip
            refine hK.out _ _ ?_ ?_
            · ((try dsimp only); exact (by repeat' (first | (with_reducible exact HG1.out.trans hgS) | (with_reducible exact HG1.out.trans (hgS.trans hgc)) | (with_reducible refine Grows.setCell ?_ (Nat.le_refl _) _) | (with_reducible refine Grows.setCell ?_ (by omega) _) | (with_reducible refine Grows.alloc ?_ _) | (with_reducible refine Grows.drew ?_) | (with_reducible refine Grows.ext ?_ _ _))))
            clear hK K hHeld
            intro hHeld
            try simp only [Act.put, List.getElem_toArray, List.getElem_cons_succ, List.getElem_cons_zero, List.setIfInBounds_toArray, List.set_cons_zero, List.set_cons_succ]
            refine anyB_done (by kernel_rfl) ?_ _
            try clear hHeld
            go_wp2_with fail
            go_meet
            case rel =>
              refine ⟨_, _, _, rfl, ?_, HQB.out.set4, ?_⟩
              · exact Grows.set4 hgS (by omega) _ _ _ _
              · exact pair_lay HKP.out HWP.out HQB.out (exc_fresh (k := W2.heap.size) HS.out (by omega) (by omega) _ (by omega)) (exc_fresh (k := W2.heap.size) HS.out (by omega) (by omega) _ (by omega)) _ _ _ _
          · simp only [List.getElem_toArray, List.getElem_cons_succ, List.getElem_cons_zero]
            go_simp
            skip
            refine hK.out _ _ ⟨?_, ?_⟩ ?_
            · ((try dsimp only); exact HG1.out.trans (hgS.trans (by repeat' (first | (with_reducible exact hgc) | (with_reducible exact Grows.refl _) | (with_reducible refine Grows.alloc ?_ _) | (with_reducible refine Grows.drew ?_) | (with_reducible refine Grows.ext ?_ _ _)))))
            · ((try dsimp only); exact hgS.trans (by repeat' (first | (with_reducible exact hgc) | (with_reducible exact Grows.refl _) | (with_reducible refine Grows.alloc ?_ _) | (with_reducible refine Grows.drew ?_) | (with_reducible refine Grows.ext ?_ _ _))))
            clear hK K hHeld
            intro hHeld
            try simp only [Act.put, List.getElem_toArray, List.getElem_cons_succ, List.getElem_cons_zero, List.setIfInBounds_toArray, List.set_cons_zero, List.set_cons_succ]
            refine abs_anyB (fun W' => Grows X210 W' ∧ Blk W' _ 3 #[.int .i64 1, .int .i64 1]) ⟨(by repeat' (first | (with_reducible exact hgc) | (with_reducible exact Grows.refl _) | (with_reducible refine Grows.alloc ?_ _) | (with_reducible refine Grows.drew ?_) | (with_reducible refine Grows.ext ?_ _ _))), Blk.new rfl⟩ ?_
            clear hHeld
            rintro X214 ⟨hgn, hex⟩
            have HQB := Lib.hid (HQB.out.grows hgn)
            have HWP := Lib.hid hex
            have hgS := hgS.trans hgn
            have hsS := hgS.size
            clear hgn hex
            have hHeld := And.intro (HG1.out.trans hgS) hgS
            refine anyB_ready (i := 5) (by kernel_rfl) rfl (fun K hK => ?_)
            simp only [List.getElem_toArray, List.getElem_cons_succ, List.getElem_cons_zero]
            go_simp
            skip
            refine hK.out _ _ ⟨?_, ?_⟩ ?_
            · ((try dsimp only); exact HG1.out.trans (hgS.trans (by repeat' (first | (with_reducible exact hgc) | (with_reducible exact Grows.refl _) | (with_reducible refine Grows.alloc ?_ _) | (with_reducible refine Grows.drew ?_) | (with_reducible refine Grows.ext ?_ _ _)))))
            · ((try dsimp only); exact hgS.trans (by repeat' (first | (with_reducible exact hgc) | (with_reducible exact Grows.refl _) | (with_reducible refine Grows.alloc ?_ _) | (with_reducible refine Grows.drew ?_) | (with_reducible refine Grows.ext ?_ _ _))))
            clear hK K hHeld
            intro hHeld
            try simp only [Act.put, List.getElem_toArray, List.getElem_cons_succ, List.getElem_cons_zero, List.setIfInBounds_toArray, List.set_cons_zero, List.set_cons_succ]
            refine abs_anyB (fun W' => Grows X214 W' ∧ Blk W' _ 25 #[.int .i64 1, .int .i64 pane, .slice none 0 0, .slice none 0 0, .int .i64 1, .int .i64 fresh, .slice none 0 0, .slice none 0 0]) ⟨(by repeat' (first | (with_reducible exact hgc) | (with_reducible exact Grows.refl _) | (with_reducible refine Grows.alloc ?_ _) | (with_reducible refine Grows.drew ?_) | (with_reducible refine Grows.ext ?_ _ _))), Blk.new rfl⟩ ?_
            clear hHeld
            rintro X215 ⟨hgn, hex⟩
            have HWP := Lib.hid (HWP.out.grows hgn)
            have HQB := Lib.hid (HQB.out.grows hgn)
            have HKP := Lib.hid hex
            have hgS := hgS.trans hgn
            have hsS := hgS.size
            clear hgn hex
            have hHeld := And.intro (HG1.out.trans hgS) hgS
            refine anyB_takeT (i := 7) (v := ?v216_7) rfl (by kernel_rfl) (by kernel_rfl) (by kernel_rfl) (by kernel_rfl) (fun _ _ _ h => h) (Or.inl ⟨by kernel_rfl, ?y216_7⟩) hHeld.1 (fun _ => hHeld.2) ?r216_7
            case y216_7 => ((intro w hTw; have k0 := (HB1.out.grows hTw).one.1; have k1 := (HB2.out.grows hTw).one.1; have hl1 := (HB1.out.grows hTw).lt; have hl2 := (HB2.out.grows hTw).lt; clear hTw; go_simp); (try go_ints); (try with_reducible rfl))
            try simp only [Act.put, List.getElem_toArray, List.getElem_cons_succ, List.getElem_cons_zero, List.setIfInBounds_toArray, List.set_cons_zero, List.set_cons_succ]
            refine anyB_over (i := 9) (by kernel_rfl) rfl (by kernel_rfl) (fun K hK => ?_)
            simp only [List.getElem_toArray, List.getElem_cons_succ, List.getElem_cons_zero]
            obtain ⟨m0, m1, m2, m3⟩ := HQB.out.four
            obtain ⟨n0, n1, n2, n3⟩ := HQB.out.four'
            have hlq := HQB.out.lt
            go_simp
            skip
            refine hK.out _ _ ?_ ?_
            · ((try dsimp only); exact (by repeat' (first | (with_reducible exact HG1.out.trans hgS) | (with_reducible exact HG1.out.trans (hgS.trans hgc)) | (with_reducible refine Grows.setCell ?_ (Nat.le_refl _) _) | (with_reducible refine Grows.setCell ?_ (by omega) _) | (with_reducible refine Grows.alloc ?_ _) | (with_reducible refine Grows.drew ?_) | (with_reducible refine Grows.ext ?_ _ _))))
            clear hK K hHeld
            intro hHeld
            try simp only [Act.put, List.getElem_toArray, List.getElem_cons_succ, List.getElem_cons_zero, List.setIfInBounds_toArray, List.set_cons_zero, List.set_cons_succ]
            refine anyB_done (by kernel_rfl) ?_ _
            try clear hHeld
            go_wp2_with fail
            go_meet
            case rel =>
              refine ⟨_, _, _, rfl, ?_, HQB.out.set4, ?_⟩
              · exact Grows.set4 hgS (by omega) _ _ _ _
              · exact pair_lay HKP.out HWP.out HQB.out (exc_fresh (k := W2.heap.size) HS.out (by omega) (by omega) _ (by omega)) (exc_fresh (k := W2.heap.size) HS.out (by omega) (by omega) _ (by omega)) _ _ _ _
        · simp only [List.getElem_toArray, List.getElem_cons_succ, List.getElem_cons_zero]
          go_simp
          skip
          refine hK.out _ _ ⟨?_, ?_⟩ ?_
          · ((try dsimp only); exact HG1.out.trans (hgS.trans (by repeat' (first | (with_reducible exact hgc) | (with_reducible exact Grows.refl _) | (with_reducible refine Grows.alloc ?_ _) | (with_reducible refine Grows.drew ?_) | (with_reducible refine Grows.ext ?_ _ _)))))
          · ((try dsimp only); exact hgS.trans (by repeat' (first | (with_reducible exact hgc) | (with_reducible exact Grows.refl _) | (with_reducible refine Grows.alloc ?_ _) | (with_reducible refine Grows.drew ?_) | (with_reducible refine Grows.ext ?_ _ _))))
          clear hK K hHeld
          intro hHeld
          try simp only [Act.put, List.getElem_toArray, List.getElem_cons_succ, List.getElem_cons_zero, List.setIfInBounds_toArray, List.set_cons_zero, List.set_cons_succ]
          refine abs_anyB (fun W' => Grows X209 W' ∧ Blk W' _ 3 #[.int .i64 1, .int .i64 1]) ⟨(by repeat' (first | (with_reducible exact hgc) | (with_reducible exact Grows.refl _) | (with_reducible refine Grows.alloc ?_ _) | (with_reducible refine Grows.drew ?_) | (with_reducible refine Grows.ext ?_ _ _))), Blk.new rfl⟩ ?_
          clear hHeld
          rintro X217 ⟨hgn, hex⟩
          have HQB := Lib.hid (HQB.out.grows hgn)
          have HWP := Lib.hid hex
          have hgS := hgS.trans hgn
          have hsS := hgS.size
          clear hgn hex
          have hHeld := And.intro (HG1.out.trans hgS) hgS
          refine anyB_ready (i := 4) (by kernel_rfl) rfl (fun K hK => ?_)
          simp only [List.getElem_toArray, List.getElem_cons_succ, List.getElem_cons_zero]
          go_simp
          (go_at_call 63; (with_reducible refine (leaf_any _ _).mono ?_); rintro e w6 ⟨rfl, h6, d6, rfl⟩)
          refine hK.out _ _ ⟨?_, ?_⟩ ?_
          · ((try dsimp only); exact HG1.out.trans (hgS.trans (by repeat' (first | (with_reducible exact hgc) | (with_reducible exact Grows.refl _) | (with_reducible refine Grows.alloc ?_ _) | (with_reducible refine Grows.drew ?_) | (with_reducible refine Grows.ext ?_ _ _)))))
          · ((try dsimp only); exact hgS.trans (by repeat' (first | (with_reducible exact hgc) | (with_reducible exact Grows.refl _) | (with_reducible refine Grows.alloc ?_ _) | (with_reducible refine Grows.drew ?_) | (with_reducible refine Grows.ext ?_ _ _))))
          clear hK K hHeld
          intro hHeld
          try simp only [Act.put, List.getElem_toArray, List.getElem_cons_succ, List.getElem_cons_zero, List.setIfInBounds_toArray, List.set_cons_zero, List.set_cons_succ]
          refine abs_anyB (fun W' => Grows X217 W' ∧ True) ⟨(by repeat' (first | (with_reducible exact hgc) | (with_reducible exact Grows.refl _) | (with_reducible refine Grows.alloc ?_ _) | (with_reducible refine Grows.drew ?_) | (with_reducible refine Grows.ext ?_ _ _))), trivial⟩ ?_
          clear hHeld
          rintro X218 ⟨hgn, hex⟩
          have HWP := Lib.hid (HWP.out.grows hgn)
          have HQB := Lib.hid (HQB.out.grows hgn)
          have hgS := hgS.trans hgn
          have hsS := hgS.size
          clear hgn hex
          have hHeld := And.intro (HG1.out.trans hgS) hgS
          refine anyB_ready (i := 5) (by kernel_rfl) rfl (fun K hK => ?_)
          simp only [List.getElem_toArray, List.getElem_cons_succ, List.getElem_cons_zero]
          go_simp
          skip
          refine hK.out _ _ ⟨?_, ?_⟩ ?_
          · ((try dsimp only); exact HG1.out.trans (hgS.trans (by repeat' (first | (with_reducible exact hgc) | (with_reducible exact Grows.refl _) | (with_reducible refine Grows.alloc ?_ _) | (with_reducible refine Grows.drew ?_) | (with_reducible refine Grows.ext ?_ _ _)))))
          · ((try dsimp only); exact hgS.trans (by repeat' (first | (with_reducible exact hgc) | (with_reducible exact Grows.refl _) | (with_reducible refine Grows.alloc ?_ _) | (with_reducible refine Grows.drew ?_) | (with_reducible refine Grows.ext ?_ _ _))))
          clear hK K hHeld
          intro hHeld
          try simp only [Act.put, List.getElem_toArray, List.getElem_cons_succ, List.getElem_cons_zero, List.setIfInBounds_toArray, List.set_cons_zero, List.set_cons_succ]
          refine abs_anyB (fun W' => Grows X218 W' ∧ Blk W' _ 25 #[.int .i64 1, .int .i64 pane, .slice none 0 0, .slice none 0 0, .int .i64 1, .int .i64 fresh, .slice none 0 0, .slice none 0 0]) ⟨(by repeat' (first | (with_reducible exact hgc) | (with_reducible exact Grows.refl _) | (with_reducible refine Grows.alloc ?_ _) | (with_reducible refine Grows.drew ?_) | (with_reducible refine Grows.ext ?_ _ _))), Blk.new rfl⟩ ?_
          clear hHeld
          rintro X219 ⟨hgn, hex⟩
          have HWP := Lib.hid (HWP.out.grows hgn)
          have HQB := Lib.hid (HQB.out.grows hgn)
          have HKP := Lib.hid hex
          have hgS := hgS.trans hgn
          have hsS := hgS.size
          clear hgn hex
          have hHeld := And.intro (HG1.out.trans hgS) hgS
          refine anyB_takeT (i := 7) (v := ?v220_7) rfl (by kernel_rfl) (by kernel_rfl) (by kernel_rfl) (by kernel_rfl) (fun _ _ _ h => h) (Or.inl ⟨by kernel_rfl, ?y220_7⟩) hHeld.1 (fun _ => hHeld.2) ?r220_7
          case y220_7 => ((intro w hTw; have k0 := (HB1.out.grows hTw).one.1; have k1 := (HB2.out.grows hTw).one.1; have hl1 := (HB1.out.grows hTw).lt; have hl2 := (HB2.out.grows hTw).lt; clear hTw; go_simp); (try go_ints); (try with_reducible rfl))
          try simp only [Act.put, List.getElem_toArray, List.getElem_cons_succ, List.getElem_cons_zero, List.setIfInBounds_toArray, List.set_cons_zero, List.set_cons_succ]
          refine anyB_over (i := 9) (by kernel_rfl) rfl (by kernel_rfl) (fun K hK => ?_)
          simp only [List.getElem_toArray, List.getElem_cons_succ, List.getElem_cons_zero]
          obtain ⟨m0, m1, m2, m3⟩ := HQB.out.four
          obtain ⟨n0, n1, n2, n3⟩ := HQB.out.four'
          have hlq := HQB.out.lt
          go_simp
          skip
          refine hK.out _ _ ?_ ?_
          · ((try dsimp only); exact (by repeat' (first | (with_reducible exact HG1.out.trans hgS) | (with_reducible exact HG1.out.trans (hgS.trans hgc)) | (with_reducible refine Grows.setCell ?_ (Nat.le_refl _) _) | (with_reducible refine Grows.setCell ?_ (by omega) _) | (with_reducible refine Grows.alloc ?_ _) | (with_reducible refine Grows.drew ?_) | (with_reducible refine Grows.ext ?_ _ _))))
          clear hK K hHeld
          intro hHeld
          try simp only [Act.put, List.getElem_toArray, List.getElem_cons_succ, List.getElem_cons_zero, List.setIfInBounds_toArray, List.set_cons_zero, List.set_cons_succ]
          refine anyB_done (by kernel_rfl) ?_ _
          try clear hHeld
          go_wp2_with fail
          go_meet
          case rel =>
            refine ⟨_, _, _, rfl, ?_, HQB.out.set4, ?_⟩
            · exact Grows.set4 hgS (by omega) _ _ _ _
            · exact pair_lay HKP.out HWP.out HQB.out (exc_fresh (k := W2.heap.size) HS.out (by omega) (by omega) _ (by omega)) (exc_fresh (k := W2.heap.size) HS.out (by omega) (by omega) _ (by omega)) _ _ _ _
      · simp only [List.getElem_toArray, List.getElem_cons_succ, List.getElem_cons_zero]
        go_simp
        skip
        refine hK.out _ _ ⟨?_, ?_⟩ ?_
        · ((try dsimp only); exact HG1.out.trans (hgS.trans (by repeat' (first | (with_reducible exact hgc) | (with_reducible exact Grows.refl _) | (with_reducible refine Grows.alloc ?_ _) | (with_reducible refine Grows.drew ?_) | (with_reducible refine Grows.ext ?_ _ _)))))
        · ((try dsimp only); exact hgS.trans (by repeat' (first | (with_reducible exact hgc) | (with_reducible exact Grows.refl _) | (with_reducible refine Grows.alloc ?_ _) | (with_reducible refine Grows.drew ?_) | (with_reducible refine Grows.ext ?_ _ _))))
        clear hK K hHeld
        intro hHeld
        try simp only [Act.put, List.getElem_toArray, List.getElem_cons_succ, List.getElem_cons_zero, List.setIfInBounds_toArray, List.set_cons_zero, List.set_cons_succ]
        refine abs_anyB (fun W' => Grows X208 W' ∧ Blk W' _ 3 #[.int .i64 1, .int .i64 1]) ⟨(by repeat' (first | (with_reducible exact hgc) | (with_reducible exact Grows.refl _) | (with_reducible refine Grows.alloc ?_ _) | (with_reducible refine Grows.drew ?_) | (with_reducible refine Grows.ext ?_ _ _))), Blk.new rfl⟩ ?_
        clear hHeld
        rintro X221 ⟨hgn, hex⟩
        have HQB := Lib.hid (HQB.out.grows hgn)
        have HWP := Lib.hid hex
        have hgS := hgS.trans hgn
        have hsS := hgS.size
        clear hgn hex
        have hHeld := And.intro (HG1.out.trans hgS) hgS
        refine anyB_ready (i := 2) (by kernel_rfl) rfl (fun K hK => ?_)
        simp only [List.getElem_toArray, List.getElem_cons_succ, List.getElem_cons_zero]
        go_simp
        (go_at_call 63; (with_reducible refine (leaf_any _ _).mono ?_); rintro e w6 ⟨rfl, h6, d6, rfl⟩)
        refine hK.out _ _ ⟨?_, ?_⟩ ?_
        · ((try dsimp only); exact HG1.out.trans (hgS.trans (by repeat' (first | (with_reducible exact hgc) | (with_reducible exact Grows.refl _) | (with_reducible refine Grows.alloc ?_ _) | (with_reducible refine Grows.drew ?_) | (with_reducible refine Grows.ext ?_ _ _)))))
        · ((try dsimp only); exact hgS.trans (by repeat' (first | (with_reducible exact hgc) | (with_reducible exact Grows.refl _) | (with_reducible refine Grows.alloc ?_ _) | (with_reducible refine Grows.drew ?_) | (with_reducible refine Grows.ext ?_ _ _))))
        clear hK K hHeld
        intro hHeld
        try simp only [Act.put, List.getElem_toArray, List.getElem_cons_succ, List.getElem_cons_zero, List.setIfInBounds_toArray, List.set_cons_zero, List.set_cons_succ]
        refine abs_anyB (fun W' => Grows X221 W' ∧ True) ⟨(by repeat' (first | (with_reducible exact hgc) | (with_reducible exact Grows.refl _) | (with_reducible refine Grows.alloc ?_ _) | (with_reducible refine Grows.drew ?_) | (with_reducible refine Grows.ext ?_ _ _))), trivial⟩ ?_
        clear hHeld
        rintro X222 ⟨hgn, hex⟩
        have HWP := Lib.hid (HWP.out.grows hgn)
        have HQB := Lib.hid (HQB.out.grows hgn)
        have hgS := hgS.trans hgn
        have hsS := hgS.size
        clear hgn hex
        have hHeld := And.intro (HG1.out.trans hgS) hgS
        refine anyB_ready (i := 4) (by kernel_rfl) rfl (fun K hK => ?_)
        simp only [List.getElem_toArray, List.getElem_cons_succ, List.getElem_cons_zero]
        go_simp
        (go_at_call 63; (with_reducible refine (leaf_any _ _).mono ?_); rintro e w6 ⟨rfl, h6, d6, rfl⟩)
        refine hK.out _ _ ⟨?_, ?_⟩ ?_
        · ((try dsimp only); exact HG1.out.trans (hgS.trans (by repeat' (first | (with_reducible exact hgc) | (with_reducible exact Grows.refl _) | (with_reducible refine Grows.alloc ?_ _) | (with_reducible refine Grows.drew ?_) | (with_reducible refine Grows.ext ?_ _ _)))))
        · ((try dsimp only); exact hgS.trans (by repeat' (first | (with_reducible exact hgc) | (with_reducible exact Grows.refl _) | (with_reducible refine Grows.alloc ?_ _) | (with_reducible refine Grows.drew ?_) | (with_reducible refine Grows.ext ?_ _ _))))
        clear hK K hHeld
        intro hHeld
        try simp only [Act.put, List.getElem_toArray, List.getElem_cons_succ, List.getElem_cons_zero, List.setIfInBounds_toArray, List.set_cons_zero, List.set_cons_succ]
        refine abs_anyB (fun W' => Grows X222 W' ∧ True) ⟨(by repeat' (first | (with_reducible exact hgc) | (with_reducible exact Grows.refl _) | (with_reducible refine Grows.alloc ?_ _) | (with_reducible refine Grows.drew ?_) | (with_reducible refine Grows.ext ?_ _ _))), trivial⟩ ?_
        clear hHeld
        rintro X223 ⟨hgn, hex⟩
        have HWP := Lib.hid (HWP.out.grows hgn)
        have HQB := Lib.hid (HQB.out.grows hgn)
        have hgS := hgS.trans hgn
        have hsS := hgS.size
        clear hgn hex
        have hHeld := And.intro (HG1.out.trans hgS) hgS
        refine anyB_ready (i := 5) (by kernel_rfl) rfl (fun K hK => ?_)
        simp only [List.getElem_toArray, List.getElem_cons_succ, List.getElem_cons_zero]
        go_simp
        skip
        refine hK.out _ _ ⟨?_, ?_⟩ ?_
        · ((try dsimp only); exact HG1.out.trans (hgS.trans (by repeat' (first | (with_reducible exact hgc) | (with_reducible exact Grows.refl _) | (with_reducible refine Grows.alloc ?_ _) | (with_reducible refine Grows.drew ?_) | (with_reducible refine Grows.ext ?_ _ _)))))
        · ((try dsimp only); exact hgS.trans (by repeat' (first | (with_reducible exact hgc) | (with_reducible exact Grows.refl _) | (with_reducible refine Grows.alloc ?_ _) | (with_reducible refine Grows.drew ?_) | (with_reducible refine Grows.ext ?_ _ _))))
        clear hK K hHeld
        intro hHeld
        try simp only [Act.put, List.getElem_toArray, List.getElem_cons_succ, List.getElem_cons_zero, List.setIfInBounds_toArray, List.set_cons_zero, List.set_cons_succ]
        refine abs_anyB (fun W' => Grows X223 W' ∧ Blk W' _ 25 #[.int .i64 1, .int .i64 pane, .slice none 0 0, .slice none 0 0, .int .i64 1, .int .i64 fresh, .slice none 0 0, .slice none 0 0]) ⟨(by repeat' (first | (with_reducible exact hgc) | (with_reducible exact Grows.refl _) | (with_reducible refine Grows.alloc ?_ _) | (with_reducible refine Grows.drew ?_) | (with_reducible refine Grows.ext ?_ _ _))), Blk.new rfl⟩ ?_
        clear hHeld
        rintro X224 ⟨hgn, hex⟩
        have HWP := Lib.hid (HWP.out.grows hgn)
        have HQB := Lib.hid (HQB.out.grows hgn)
        have HKP := Lib.hid hex
        have hgS := hgS.trans hgn
        have hsS := hgS.size
        clear hgn hex
        have hHeld := And.intro (HG1.out.trans hgS) hgS
        refine anyB_takeT (i := 7) (v := ?v225_7) rfl (by kernel_rfl) (by kernel_rfl) (by kernel_rfl) (by kernel_rfl) (fun _ _ _ h => h) (Or.inl ⟨by kernel_rfl, ?y225_7⟩) hHeld.1 (fun _ => hHeld.2) ?r225_7
        case y225_7 => ((intro w hTw; have k0 := (HB1.out.grows hTw).one.1; have k1 := (HB2.out.grows hTw).one.1; have hl1 := (HB1.out.grows hTw).lt; have hl2 := (HB2.out.grows hTw).lt; clear hTw; go_simp); (try go_ints); (try with_reducible rfl))
        try simp only [Act.put, List.getElem_toArray, List.getElem_cons_succ, List.getElem_cons_zero, List.setIfInBounds_toArray, List.set_cons_zero, List.set_cons_succ]
        refine anyB_over (i := 9) (by kernel_rfl) rfl (by kernel_rfl) (fun K hK => ?_)
        simp only [List.getElem_toArray, List.getElem_cons_succ, List.getElem_cons_zero]
        obtain ⟨m0, m1, m2, m3⟩ := HQB.out.four
        obtain ⟨n0, n1, n2, n3⟩ := HQB.out.four'
        have hlq := HQB.out.lt
        go_simp
        skip
        refine hK.out _ _ ?_ ?_
        · ((try dsimp only); exact (by repeat' (first | (with_reducible exact HG1.out.trans hgS) | (with_reducible exact HG1.out.trans (hgS.trans hgc)) | (with_reducible refine Grows.setCell ?_ (Nat.le_refl _) _) | (with_reducible refine Grows.setCell ?_ (by omega) _) | (with_reducible refine Grows.alloc ?_ _) | (with_reducible refine Grows.drew ?_) | (with_reducible refine Grows.ext ?_ _ _))))
        clear hK K hHeld
        intro hHeld
        try simp only [Act.put, List.getElem_toArray, List.getElem_cons_succ, List.getElem_cons_zero, List.setIfInBounds_toArray, List.set_cons_zero, List.set_cons_succ]
        refine anyB_done (by kernel_rfl) ?_ _
        try clear hHeld
        go_wp2_with fail
        go_meet
        case rel =>
          refine ⟨_, _, _, rfl, ?_, HQB.out.set4, ?_⟩
          · exact Grows.set4 hgS (by omega) _ _ _ _
          · exact pair_lay HKP.out HWP.out HQB.out (exc_fresh (k := W2.heap.size) HS.out (by omega) (by omega) _ (by omega)) (exc_fresh (k := W2.heap.size) HS.out (by omega) (by omega) _ (by omega)) _ _ _ _
  case rest =>
    obtain ⟨q, vkp, vwp, rfl, hgc, hbq, hlp⟩ := hcut
    have hbq2 := hbq
    obtain ⟨pk, pkc, rfl, -⟩ := hlp.kids.shape rfl
    obtain ⟨pw, pwc, rfl, -⟩ := hlp.ints.shape rfl
    have hgR : Grows W1 wc := HG1.out.trans hgc
    have hgW : Grows W1 wc := hgR
    obtain ⟨a0, a1, a2, a3⟩ := (HB0.out.grows hgW).four
    obtain ⟨k0, -⟩ := (HB1.out.grows hgW).one
    obtain ⟨k1, -⟩ := (HB2.out.grows hgW).one
    obtain ⟨b0, b1, b2, b3⟩ := (HB3.out.grows hgW).four
    obtain ⟨d0, d1, d2, d3⟩ := (HB3.out.grows hgW).four'
    have hl0 := (HB0.out.grows hgW).lt
    have hl1 := (HB1.out.grows hgW).lt
    have hl2 := (HB2.out.grows hgW).lt
    have hl3 := (HB3.out.grows hgW).lt
    have hSC := Lib.hid (show SplitC (Exc (w.heap.size + 1 + 1 + 1) S) wc (w.heap.size + 1) (w.heap.size + 1 + 1) q kind fresh pane (.slice pk 2 pkc) (.slice pw 2 pwc) from ⟨HB1.out.grows hgR, HB2.out.grows hgR, hbq, hlp⟩)
    have hgRS := hgR.size
    clear hgc hbq
    go_upto_region 12 with (go_at_call 57; (go_must (with_reducible refine (HR.out _ _ hgR (edit_split hSC.out)).mono ?_)); rintro e w5 hE; obtain ⟨vk5, vw5, rfl, hl5, hg2⟩ := hE.open_; obtain ⟨ka5, kc5, rfl, -⟩ := hl5.kids.shape rfl; obtain ⟨wa5, wc5, rfl, -⟩ := hl5.ints.shape rfl)
    have HL5 := Lib.hid hl5
    have HLP := Lib.hid (hlp.grows hg2)
    have HBQ := Lib.hid (hbq2.grows hg2)
    have hgW5 : Grows W1 w5 := hgR.trans hg2
    refine abs_worldM (fun W' => Grows w5 W' ∧ Blk W' w5.heap.size 25 #[.int .i64 y.kind, .int .i64 y.pane, .slice ka5 y.kids.length kc5, .slice wa5 y.ws.length wc5]) ⟨(by repeat' (first | (with_reducible exact Grows.refl _) | (with_reducible refine Grows.alloc ?_ _) | (with_reducible refine Grows.drew ?_) | (with_reducible refine Grows.ext ?_ _ _))), Blk.new (by simp)⟩ ?_
    rintro W6 ⟨hg6, hb6⟩
    have hgW : Grows W1 W6 := hgW5.trans hg6
    obtain ⟨m0, m1, m2, m3⟩ := hb6.four
    have hlm := hb6.lt
    obtain ⟨p0, p1, p2, p3⟩ := (HBQ.out.grows hg6).four
    have hlp6 := (HBQ.out.grows hg6).lt
    obtain ⟨a0, a1, a2, a3⟩ := (HB0.out.grows hgW).four
    obtain ⟨k0, -⟩ := (HB1.out.grows hgW).one
    obtain ⟨k1, -⟩ := (HB2.out.grows hgW).one
    obtain ⟨b0, b1, b2, b3⟩ := (HB3.out.grows hgW).four
    obtain ⟨d0, d1, d2, d3⟩ := (HB3.out.grows hgW).four'
    have hl0 := (HB0.out.grows hgW).lt
    have hl1 := (HB1.out.grows hgW).lt
    have hl2 := (HB2.out.grows hgW).lt
    have hl3 := (HB3.out.grows hgW).lt
    clear hl5 hlp hbq2
    generalize y.kids.length = yk at *
    generalize y.ws.length = yw at *
    cases t with
    | false =>
      go_wp2_with fail
      refine ret_cell_tmp (t := 25) (n := w.heap.size + 1 + 1 + 1) (cs := #[.int .i64 kind, .int .i64 0, .slice pk 2 pkc, .slice pw 2 pwc]) rfl rfl rfl ?_ Try.underlying25 rfl (by kernel_rfl) rfl ?_
      · exact (HB3.out.grows hgW).set4
      · exact ⟨_, _, rfl, ((HLP.out.grows hg6).same (exc_set4 _ _ _ _)).unexc, (HGw.out.trans hgW).set4 (by omega) _ _ _ _⟩
    | true =>
      go_wp2_with fail
      refine ret_cell_tmp (t := 25) (n := w.heap.size + 1 + 1 + 1) (cs := #[.int .i64 y.kind, .int .i64 y.pane, .slice ka5 yk kc5, .slice wa5 yw wc5]) rfl rfl rfl ?_ Try.underlying25 rfl (by kernel_rfl) rfl ?_
      · exact (HB3.out.grows hgW).set4
      · exact ⟨_, _, rfl, ((HL5.out.grows hg6).same (exc_set4 _ _ _ _)).unexc, (HGw.out.trans hgW).set4 (by omega) _ _ _ _⟩
end Go.Proofs.Ytbobpgegkmcapaa

