/-
  Walks: Even. Walks: Swap. Walks: Split, Even, Swap whole.
-/
import Derived.Test.YtbobpgegkmcapaaRows
import Derived.Test.YtbobpgegkmcapaaE1
import Derived.Test.YtbobpgegkmcapaaE2
import Derived.Test.YtbobpgegkmcapaaE3
import Derived.Test.YtbobpgegkmcapaaE5
import Derived.Test.YtbobpgegkmcapaaE8
import Derived.Test.YtbobpgegkmcapaaE9
import Derived.Test.YtbobpgegkmcapaaE10
import Derived.WalkKit
import Derived.WalkSpells
import Derived.WalkLawsBesides
import Derived.Handy
import Derived.Laws.Rows
import Derived.Great.BuildSlice
import Derived.Deep.Heap
import Derived.IntWalk
import Derived.Lib.Hide
import Derived.Outline
import Derived.Deep.Light
import Derived.Deep.LoopGhost
import Derived.BigGuardPart
import Derived.BigQuiet
import Derived.Deep.QuietTactic
import Derived.Deep.RegionHeld3
import Derived.Deep.DeepCutAuto
import Derived.Deep.CutBlock
import Derived.OwnWalk
import Derived.Maps.AppendAt
import Derived.Test.YtbobpgegkmcapaaE11
namespace Go.Proofs.Ytbobpgegkmcapaa
open Go.RowKit

set_option maxRecDepth 100000 in
set_option maxHeartbeats 4000000 in
theorem even_any (L : Lay) : okTree L = true → (panesL L).length ≤ 1000 → ∀ (S : Nat → Prop) (vk vw : Value) (w : World), (∀ b, w.heap.size ≤ b → S b) → LayAt S w L vk vw → Calls Try.prog 60 #[.agg #[.int .i64 L.kind, .int .i64 L.pane, vk, vw]] w (fun e w' => LRes S w w' (evenL L) e) := by
  induction L using Lay.ind with | h k p ks ws ih => ?_
  intro hok hn S vk vw w hS h
  obtain ⟨hv, hkok⟩ := okTree_iff.1 hok
  dsimp only [Lay.kids] at hkok
  have hks : ks.length ≤ 1000 ∧ ∀ x ∈ ks, (panesL x).length ≤ 1000 := by
    by_cases hk : k = 1
    · have hz : ks = [] := (validN_leaf hv hk).2.2.1
      rw [hz]
      exact ⟨Nat.zero_le _, fun x hx => by cases hx⟩
    · rw [panesL_mk, if_neg hk] at hn
      have := len_kids (ks := ks) hkok
      exact ⟨by omega, fun x hx => by have := len_mem hx; omega⟩
  obtain ⟨i25, hi25, hz25, hs25, hb25⟩ := info_parts info25
  obtain ⟨i3, hi3, hz3, hs3, hb3⟩ := info_parts info3
  obtain ⟨a, cap, G, rfl, hcap, hmx, hin⟩ := h.lt.kids.open_ rfl
  obtain ⟨wa, wc, rfl, -, -, hiw⟩ := h.ints.open_ rfl
  dsimp only [Lay.kids, Lay.ws, Lay.kind, Lay.pane] at hcap hmx hin hiw h ⊢
  rw [evenL_mk]
  have Hin := Lib.hid hin
  have HI := Lib.hid fun (x : Lay) (hx : x ∈ ks) => ih x hx (hkok x hx) (hks.2 x hx)
  have HS := Lib.hid hS
  have hkn := hks.1
  clear ih hok hn hS h hv hkok hin hiw hks
  generalize ws.length = wn at *
  go_enter Try.func60, Try.ntmps60
  go_upto_region 1 with fail
  refine abs_worldM (fun W => Grows w W ∧ Blk W w.heap.size 25 #[.int .i64 k, .int .i64 p, .slice a ks.length cap, .slice wa wn wc] ∧ Blk W (w.heap.size + 1) 25 #[.int .i64 0, .int .i64 0, .slice none 0 0, .slice none 0 0]) (boxes2 _ _ _) ?_
  rintro W0 ⟨hg0, hb0, hb1⟩
  obtain ⟨a0, a1, a2, a3⟩ := hb0.four
  have hl0 := hb0.lt
  have hl1 := hb1.lt
  have HB0 := Lib.hid hb0
  have HB1 := Lib.hid hb1
  have HG0 := Lib.hid hg0
  have hs0 := hg0.size
  have HSF := Lib.hid (but_fresh (m := w.heap.size + 2) HS.out (Nat.le_refl _))
  have hsz0 : w.heap.size + 2 ≤ W0.heap.size := by omega
  clear hb0 hb1 hg0
  go_wp2_with fail
  go_loopw [3, 4, 10] (fun v3 v4 i wr => ∃ (m : Nat) (wv : World) (G : Nat → Value × Value) (ys : List Lay) (zs : List Int), wv = wr ∧ m ≤ ks.length ∧ i = .int .i64 m ∧ KRow (But w.heap.size S) W0.heap.size wv v3 v4 ys zs G ∧ ys = (ks.take m).map evenL ∧ zs = (ks.take m).map (fun _ => 1) ∧ Grows W0 wv) (fun _ _ i _ => ks.length - (intOf i).toNat)
  case atStart => exact ⟨0, _, noG, [], [], rfl, Nat.zero_le _, rfl, KRow.nil _ _ _, rfl, rfl, Grows.refl _⟩
  case round =>
    obtain ⟨m, wv, G2, ys, zs, rfl, hm, rfl, hro, hys, hzs, hg⟩ := hrel
    have HG := Lib.hid hg
    have HRO := Lib.hid hro
    have hsz := hg.size
    obtain ⟨a0, a1, a2, a3⟩ := (HB0.out.grows hg).four
    obtain ⟨f0, f1, f2, f3⟩ := (HB0.out.grows hg).four'
    have hl0 := (HB0.out.grows hg).lt
    have hl1 := (HB1.out.grows hg).lt
    have hyl : ys.length ≤ m := by rw [hys, List.length_map, List.length_take]; omega
    have hzl : zs.length ≤ m := by rw [hzs, List.length_map, List.length_take]; omega
    have HYZ := Lib.hid (And.intro hys hzs)
    clear hys hzs
    by_cases hlt : m < ks.length
    · obtain ⟨b, off, x, ka, kn, kc, xa, xn, xc, rfl, hb, -, hx, hmem, -, -, e0, e1, e4, e3, hL⟩ := (Hin.out.grows (HG0.out.trans hg)).at_ hlt
      have hLx := hL.mono (S' := Off (But w.heap.size S) u3 u4) fun b _ hb => hro.old b (by have := hb.2; omega) ⟨hb.1, .inl hb.2⟩
      have HC := Lib.hid fun W (g : Grows wv W) => HI.out x hmem (Off (But w.heap.size S) u3 u4) _ _ W ((hro.grows g).fresh (but_fresh HS.out (by have := g.size; omega))) (hLx.grows g)
      have hYS : ys ++ [evenL x] = (ks.take (m + 1)).map evenL := by rw [take_snoc hx, List.map_append, ← HYZ.out.1]; rfl
      have hZS : zs ++ [1] = (ks.take (m + 1)).map (fun _ => 1) := by rw [take_snoc hx, List.map_append, ← HYZ.out.2]; rfl
      obtain ⟨y, hy⟩ : ∃ z, evenL x = z := ⟨_, rfl⟩
      rw [hy] at HC hYS
      have HYS := Lib.hid (And.intro hYS hZS)
      clear hro hg hx hmem hL hLx hYS hZS hy
      go_wp2_with (first | (go_at_call 60; (go_must (with_reducible refine (HC.out _ (by repeat' (first | (with_reducible exact Grows.refl _) | (with_reducible refine Grows.alloc ?_ _) | (with_reducible refine Grows.drew ?_) | (with_reducible refine Grows.ext ?_ _ _)))).mono ?_)); rintro e w7 hE; obtain ⟨ka7, kc7, wa7, wc7, rfl, hl7, hg7⟩ := hE.open_; have hgc : Grows wv w7 := Grows.trans (by repeat' (first | (with_reducible exact Grows.refl _) | (with_reducible refine Grows.alloc ?_ _) | (with_reducible refine Grows.drew ?_) | (with_reducible refine Grows.ext ?_ _ _))) hg7) | (at_builtin; (refine wpList_appO _ rfl (.tmp 14) (.tmp 17) 22 rfl W0.heap.size 25 i25 _ 4 64 Try.underlying22 hi25 hz25 hs25 hb25 rfl (by decide) ys.length 1 (kidC ys G2) (kidC [y] (fun _ => (.slice ka7 y.kids.length kc7, .slice wa7 y.ws.length wc7))) (HRO.out.grows (hgc.alloc _)).k (by rw [kidC_single]; exact cells_new4 rfl) (kid_one hl7) (by unfold maxLen; omega) (by omega) (Nat.le_trans HG.out.size (hgc.alloc _).size) ?_); intro v8 w8 row8 q1 q2 q3 q4; have hrk := (HRO.out.grows (hgc.alloc _)).addK (hl7.grows ((Grows.refl _).alloc _)) rfl q1 q2 q3 q4; have hg8 : Grows W0 w8 := appended_grows (HG.out.trans (hgc.alloc _)) q2 (fun k e => (q3 k e).1); clear q1 q2 q3 q4) | (at_builtin; (refine wpList_appO _ rfl (.tmp 19) (.tmp 20) 23 rfl W0.heap.size 3 i3 _ 1 8 Try.underlying23 hi3 hz3 hs3 hb3 rfl (by decide) zs.length 1 (intC zs) (intC [1]) (hrk.grows ((Grows.refl _).alloc _)).i (cells_int1 rfl) (intC_one _) (by unfold maxLen; omega) (by omega) (Nat.le_trans hg8.size ((Grows.refl _).alloc _).size) ?_); intro v9 w9 row9 q1 q2 q3 q4; have hrw := (hrk.grows ((Grows.refl _).alloc _)).addW rfl q1 q2 q3 q4; have hg9 : Grows W0 w9 := appended_grows (hg8.alloc _) q2 (fun k e => (q3 k e).1); clear q1 q2 q3 q4))
      go_roundw
      case rel => exact ⟨m + 1, _, _, ys ++ [y], zs ++ [1], rfl, by omega, by go_num, hrw, HYS.out.1, HYS.out.2, hg9⟩
      case measure => simp [intOf]; omega
    · have e : m = ks.length := by omega
      subst e
      obtain ⟨⟨ra, rc, e3⟩, ⟨rb, rd, e4⟩⟩ := hro.slices
      subst e3 e4
      have hY : (ks.take ks.length).map evenL = ks.map evenL := by rw [List.take_length]
      have hZ : (ks.take ks.length).map (fun _ => (1 : Int)) = ks.map (fun _ => 1) := by rw [List.take_length]
      have HSH := Lib.hid (hro.shut (k := k) (p := p) (but_fresh HS.out (by omega)) (by omega) (by omega))
      have HB1' := Lib.hid (HB1.out.grows hg)
      have HB0' := Lib.hid (HB0.out.grows hg)
      obtain ⟨b0, b1, b2, b3⟩ := HB1'.out.four
      obtain ⟨d0, d1, d2, d3⟩ := HB1'.out.four'
      clear hro hg
      generalize ys.length = yn at *
      generalize zs.length = zn at *
      rw [HYZ.out.1, HYZ.out.2, hY, hZ] at HSH
      clear hY hZ
      go_upto_region 9 with fail
      refine abs_worldM (fun W' => Grows w W' ∧ Blk W' w.heap.size 25 #[.int .i64 k, .int .i64 p, .slice ra yn rc, .slice rb zn rd] ∧ Blk W' (w.heap.size + 1) 25 #[.int .i64 0, .int .i64 0, .slice none 0 0, .slice none 0 0] ∧ LayAt (But w.heap.size S) W' (.mk k p (ks.map evenL) (ks.map fun _ => 1)) (.slice ra yn rc) (.slice rb zn rd)) ⟨((HG0.out.trans HG.out).setCell (Nat.le_refl _) _).setCell (Nat.le_refl _) _, (HB0'.out.set 2 _).set 3 _, (HB1'.out.other (by omega)).other (by omega), HSH.out.same (but_set0.trans but_set0)⟩ ?_
      rintro W9 ⟨hg9, hb9, hb10, hl9⟩
      obtain ⟨a0, a1, a2, a3⟩ := hb9.four
      obtain ⟨b0, b1, b2, b3⟩ := hb10.four
      obtain ⟨d0, d1, d2, d3⟩ := hb10.four'
      have hl0 := hb9.lt
      have hl1 := hb10.lt
      have HL9 := Lib.hid hl9
      have HB9 := Lib.hid hb10
      have HG9 := Lib.hid hg9
      clear hb9 hb10 hl9 hg9
      go_wp2_with fail
      refine ret_cell (t := 25) (n := w.heap.size + 1) (cs := #[.int .i64 k, .int .i64 p, .slice ra yn rc, .slice rb zn rd]) rfl rfl ?_ Try.underlying25 rfl (by kernel_rfl) rfl ?_
      · exact HB9.out.set4
      · exact ⟨_, _, rfl, (HL9.out.same (but_set4 _ _ _ _)).unbut, HG9.out.set4 (by omega) _ _ _ _⟩
end Go.Proofs.Ytbobpgegkmcapaa

namespace Go.Proofs.Ytbobpgegkmcapaa
open Go.RowKit

theorem KidsAt.but {S : Nat → Prop} {w : World} {vk : Value} {ks : List Lay} (h : KidsAt S w vk ks) : KidsAt (But w.heap.size S) w vk ks := h.mono fun _ hb hs => ⟨hs, .inl hb⟩
set_option maxRecDepth 100000 in
set_option maxHeartbeats 4000000 in
theorem swap_any (x y : Int) (p1 p2 : Nat) (L : Lay) : okTree L = true → (panesL L).length ≤ 1000 → ∀ (S : Nat → Prop) (vk vw : Value) (w : World), (∀ b, w.heap.size ≤ b → S b) → LayAt S w L vk vw → Blk w p1 3 #[.int .i64 x] → Blk w p2 3 #[.int .i64 y] → Calls Try.prog 61 #[.agg #[.int .i64 L.kind, .int .i64 L.pane, vk, vw], .func (.func 62) #[] #[.pointer (some ⟨p1, 0, none⟩), .pointer (some ⟨p2, 0, none⟩)]] w (fun e w' => LRes S w w' (swapL x y L) e) := by
  induction L using Lay.ind with | h k p ks ws ih => ?_
  intro hok hn S vk vw w hS h hP1 hP2
  obtain ⟨hv, hkok⟩ := okTree_iff.1 hok
  dsimp only [Lay.kids] at hkok
  have hks : ks.length ≤ 1000 ∧ ∀ x ∈ ks, (panesL x).length ≤ 1000 := by
    by_cases hk : k = 1
    · have hz : ks = [] := (validN_leaf hv hk).2.2.1
      rw [hz]
      exact ⟨Nat.zero_le _, fun x hx => by cases hx⟩
    · rw [panesL_mk, if_neg hk] at hn
      have := len_kids (ks := ks) hkok
      exact ⟨by omega, fun x hx => by have := len_mem hx; omega⟩
  obtain ⟨i25, hi25, hz25, hs25, hb25⟩ := info_parts info25
  obtain ⟨a, cap, G, rfl, hcap, hmx, hin⟩ := h.lt.kids.open_ rfl
  obtain ⟨wa, wc, rfl, -, -, hiw⟩ := h.ints.open_ rfl
  have HIW := Lib.hid (IntsAt.but h.ints)
  have HKI := Lib.hid h.kids
  have HP1 := Lib.hid hP1
  have HP2 := Lib.hid hP2
  clear hP1 hP2
  dsimp only [Lay.kids, Lay.ws, Lay.kind, Lay.pane] at hcap hmx hin hiw h HIW ⊢
  rw [swapL_mk]
  have Hin := Lib.hid hin
  have HI := Lib.hid fun (x : Lay) (hx : x ∈ ks) => ih x hx (hkok x hx) (hks.2 x hx)
  have HS := Lib.hid hS
  have hkn := hks.1
  clear ih hok hn hS h hv hkok hin hiw hks
  generalize ws.length = wn at *
  by_cases hk : k = 1
  · have kk : (k == 1) = true := by simpa using hk
    have HKL := Lib.hid (KidsAt.but HKI.out)
    subst hk
    have HNM := Lib.hid fun W (g : Grows w W) => swap_name p (HP1.out.grows g) (HP2.out.grows g)
    obtain ⟨q, hq⟩ : ∃ q, swapP x y p = q := ⟨_, rfl⟩
    rw [hq] at HNM
    rw [if_pos rfl, hq]
    clear hq
    go_enter Try.func61, Try.ntmps61
    go_upto_region 1 with fail
    refine abs_worldM (fun W => Grows w W ∧ Blk W w.heap.size 25 #[.int .i64 1, .int .i64 p, .slice a ks.length cap, .slice wa wn wc] ∧ Blk W (w.heap.size + 1) 25 #[.int .i64 0, .int .i64 0, .slice none 0 0, .slice none 0 0]) (boxes2 _ _ _) ?_
    rintro W0 ⟨hg0, hb0, hb1⟩
    obtain ⟨a0, a1, a2, a3⟩ := hb0.four
    have hl0 := hb0.lt
    have hl1 := hb1.lt
    have HB0 := Lib.hid hb0
    have HB1 := Lib.hid hb1
    have HG0 := Lib.hid hg0
    have hs0 := hg0.size
    have HSF := Lib.hid (but_fresh (m := w.heap.size + 2) HS.out (Nat.le_refl _))
    have hsz0 : w.heap.size + 2 ≤ W0.heap.size := by omega
    clear hb0 hb1 hg0
    obtain ⟨f0, f1, f2, f3⟩ := HB0.out.four'
    go_upto_region 3 with (go_at_call 62; (go_must (with_reducible refine (HNM.out _ (HG0.out.trans (by repeat' (first | (with_reducible exact Grows.refl _) | (with_reducible refine Grows.alloc ?_ _) | (with_reducible refine Grows.drew ?_) | (with_reducible refine Grows.ext ?_ _ _))))).mono ?_)); rintro e w7 ⟨rfl, hg7⟩; have hgc : Grows W0 w7 := Grows.trans (by repeat' (first | (with_reducible exact Grows.refl _) | (with_reducible refine Grows.alloc ?_ _) | (with_reducible refine Grows.drew ?_) | (with_reducible refine Grows.ext ?_ _ _))) hg7; obtain ⟨a0, a1, a2, a3⟩ := (HB0.out.grows hgc).four; obtain ⟨f0, f1, f2, f3⟩ := (HB0.out.grows hgc).four'; have hl0 := (HB0.out.grows hgc).lt)
    refine abs_worldM (fun W' => Grows w W' ∧ Blk W' w.heap.size 25 #[.int .i64 1, .int .i64 q, .slice a ks.length cap, .slice wa wn wc] ∧ Blk W' (w.heap.size + 1) 25 #[.int .i64 0, .int .i64 0, .slice none 0 0, .slice none 0 0] ∧ LayAt (But w.heap.size S) W' (.mk 1 q ks ws) (.slice a ks.length cap) (.slice wa wn wc)) ⟨(HG0.out.trans hgc).setCell (Nat.le_refl _) _, (HB0.out.grows hgc).set 1 _, (HB1.out.grows hgc).other (by omega), (LayAt_mk.2 ⟨HIW.out.grows (HG0.out.trans hgc), HKL.out.grows (HG0.out.trans hgc)⟩).same but_set0⟩ ?_
    rintro W9 ⟨hg9, hb9, hb10, hl9⟩
    obtain ⟨a0, a1, a2, a3⟩ := hb9.four
    obtain ⟨b0, b1, b2, b3⟩ := hb10.four
    obtain ⟨d0, d1, d2, d3⟩ := hb10.four'
    have hl0 := hb9.lt
    have hl1 := hb10.lt
    have HL9 := Lib.hid hl9
    have HB9 := Lib.hid hb10
    have HG9 := Lib.hid hg9
    clear hb9 hb10 hl9 hg9
    go_wp2_with fail
    refine ret_cell (t := 25) (n := w.heap.size + 1) (cs := #[.int .i64 1, .int .i64 q, .slice a ks.length cap, .slice wa wn wc]) rfl rfl ?_ Try.underlying25 rfl (by kernel_rfl) rfl ?_
    · exact HB9.out.set4
    · exact ⟨_, _, rfl, (HL9.out.same (but_set4 _ _ _ _)).unbut, HG9.out.set4 (by omega) _ _ _ _⟩
  · have kk : (k == 1) = false := by simpa using hk
    rw [if_neg hk]
    go_enter Try.func61, Try.ntmps61
    go_upto_region 1 with fail
    refine abs_worldM (fun W => Grows w W ∧ Blk W w.heap.size 25 #[.int .i64 k, .int .i64 p, .slice a ks.length cap, .slice wa wn wc] ∧ Blk W (w.heap.size + 1) 25 #[.int .i64 0, .int .i64 0, .slice none 0 0, .slice none 0 0]) (boxes2 _ _ _) ?_
    rintro W0 ⟨hg0, hb0, hb1⟩
    obtain ⟨a0, a1, a2, a3⟩ := hb0.four
    have hl0 := hb0.lt
    have hl1 := hb1.lt
    have HB0 := Lib.hid hb0
    have HB1 := Lib.hid hb1
    have HG0 := Lib.hid hg0
    have hs0 := hg0.size
    have HSF := Lib.hid (but_fresh (m := w.heap.size + 2) HS.out (Nat.le_refl _))
    have hsz0 : w.heap.size + 2 ≤ W0.heap.size := by omega
    clear hb0 hb1 hg0
    go_wp2_with fail
    go_loopw [5, 20] (fun v3 i wr => ∃ (m : Nat) (wv : World) (G : Nat → Value × Value) (ys : List Lay), wv = wr ∧ m ≤ ks.length ∧ i = .int .i64 m ∧ KRow (But w.heap.size S) W0.heap.size wv v3 (.slice none 0 0) ys [] G ∧ ys = (ks.take m).map (swapL x y) ∧ Grows W0 wv) (fun _ i _ => ks.length - (intOf i).toNat)
    case atStart => exact ⟨0, _, noG, [], rfl, Nat.zero_le _, rfl, KRow.nil _ _ _, rfl, Grows.refl _⟩
    case round =>
      obtain ⟨m, wv, G2, ys, rfl, hm, rfl, hro, hys, hg⟩ := hrel
      have HG := Lib.hid hg
      have HRO := Lib.hid hro
      have hsz := hg.size
      obtain ⟨a0, a1, a2, a3⟩ := (HB0.out.grows hg).four
      obtain ⟨f0, f1, f2, f3⟩ := (HB0.out.grows hg).four'
      have hl0 := (HB0.out.grows hg).lt
      have hl1 := (HB1.out.grows hg).lt
      have hyl : ys.length ≤ m := by rw [hys, List.length_map, List.length_take]; omega
      have HYZ := Lib.hid hys
      clear hys
      by_cases hlt : m < ks.length
      · obtain ⟨b, off, z, ka, kn, kc, xa, xn, xc, rfl, hb, -, hx, hmem, -, -, e0, e1, e4, e3, hL⟩ := (Hin.out.grows (HG0.out.trans hg)).at_ hlt
        have hLx := hL.mono (S' := Off (But w.heap.size S) u5 (.slice none 0 0)) fun b _ hb => hro.old b (by have := hb.2; omega) ⟨hb.1, .inl hb.2⟩
        have HC := Lib.hid fun W (g : Grows wv W) => HI.out z hmem (Off (But w.heap.size S) u5 (.slice none 0 0)) _ _ W ((hro.grows g).fresh (but_fresh HS.out (by have := g.size; omega))) (hLx.grows g) (HP1.out.grows ((HG0.out.trans HG.out).trans g)) (HP2.out.grows ((HG0.out.trans HG.out).trans g))
        have hYS : ys ++ [swapL x y z] = (ks.take (m + 1)).map (swapL x y) := by rw [take_snoc hx, List.map_append, ← HYZ.out]; rfl
        obtain ⟨q, hy⟩ : ∃ q, swapL x y z = q := ⟨_, rfl⟩
        rw [hy] at HC hYS
        have HYS := Lib.hid hYS
        clear hro hg hx hmem hL hLx hYS hy
        go_wp2_with (first | (go_at_call 61; (go_must (with_reducible refine (HC.out _ (by repeat' (first | (with_reducible exact Grows.refl _) | (with_reducible refine Grows.alloc ?_ _) | (with_reducible refine Grows.drew ?_) | (with_reducible refine Grows.ext ?_ _ _)))).mono ?_)); rintro e w7 hE; obtain ⟨ka7, kc7, wa7, wc7, rfl, hl7, hg7⟩ := hE.open_; have hgc : Grows wv w7 := Grows.trans (by repeat' (first | (with_reducible exact Grows.refl _) | (with_reducible refine Grows.alloc ?_ _) | (with_reducible refine Grows.drew ?_) | (with_reducible refine Grows.ext ?_ _ _))) hg7) | (at_builtin; (refine wpList_appO _ rfl (.tmp 24) (.tmp 28) 22 rfl W0.heap.size 25 i25 _ 4 64 Try.underlying22 hi25 hz25 hs25 hb25 rfl (by decide) ys.length 1 (kidC ys G2) (kidC [q] (fun _ => (.slice ka7 q.kids.length kc7, .slice wa7 q.ws.length wc7))) (HRO.out.grows (hgc.alloc _)).k (by rw [kidC_single]; exact cells_new4 rfl) (kid_one hl7) (by unfold maxLen; omega) (by omega) (Nat.le_trans HG.out.size (hgc.alloc _).size) ?_); intro v8 w8 row8 q1 q2 q3 q4; have hrk := (HRO.out.grows (hgc.alloc _)).addK (hl7.grows ((Grows.refl _).alloc _)) rfl q1 q2 q3 q4; have hg8 : Grows W0 w8 := appended_grows (HG.out.trans (hgc.alloc _)) q2 (fun k e => (q3 k e).1); clear q1 q2 q3 q4))
        go_roundw
        case rel => exact ⟨m + 1, _, _, ys ++ [q], rfl, by omega, by go_num, hrk, HYS.out, hg8⟩
        case measure => simp [intOf]; omega
      · have e : m = ks.length := by omega
        subst e
        obtain ⟨⟨ra, rc, e3⟩, -⟩ := hro.slices
        subst e3
        have hY : (ks.take ks.length).map (swapL x y) = ks.map (swapL x y) := by rw [List.take_length]
        have HSH := Lib.hid (LayAt_mk.2 ⟨HIW.out.grows (HG0.out.trans hg), (LayAt_mk.1 (hro.shut (k := k) (p := p) (but_fresh HS.out (by omega)) (by omega) (by simp))).2⟩ : LayAt (But w.heap.size S) wv (.mk k p ys ws) _ _)
        have HB1' := Lib.hid (HB1.out.grows hg)
        have HB0' := Lib.hid (HB0.out.grows hg)
        obtain ⟨b0, b1, b2, b3⟩ := HB1'.out.four
        obtain ⟨d0, d1, d2, d3⟩ := HB1'.out.four'
        clear hro hg
        generalize ys.length = yn at *
        rw [HYZ.out, hY] at HSH
        clear hY
        go_upto_region 11 with fail
        refine abs_worldM (fun W' => Grows w W' ∧ Blk W' w.heap.size 25 #[.int .i64 k, .int .i64 p, .slice ra yn rc, .slice wa wn wc] ∧ Blk W' (w.heap.size + 1) 25 #[.int .i64 0, .int .i64 0, .slice none 0 0, .slice none 0 0] ∧ LayAt (But w.heap.size S) W' (.mk k p (ks.map (swapL x y)) ws) (.slice ra yn rc) (.slice wa wn wc)) ⟨(HG0.out.trans HG.out).setCell (Nat.le_refl _) _, HB0'.out.set 2 _, HB1'.out.other (by omega), HSH.out.same but_set0⟩ ?_
        rintro W9 ⟨hg9, hb9, hb10, hl9⟩
        obtain ⟨a0, a1, a2, a3⟩ := hb9.four
        obtain ⟨b0, b1, b2, b3⟩ := hb10.four
        obtain ⟨d0, d1, d2, d3⟩ := hb10.four'
        have hl0 := hb9.lt
        have hl1 := hb10.lt
        have HL9 := Lib.hid hl9
        have HB9 := Lib.hid hb10
        have HG9 := Lib.hid hg9
        clear hb9 hb10 hl9 hg9
        go_wp2_with fail
        refine ret_cell (t := 25) (n := w.heap.size + 1) (cs := #[.int .i64 k, .int .i64 p, .slice ra yn rc, .slice wa wn wc]) rfl rfl ?_ Try.underlying25 rfl (by kernel_rfl) rfl ?_
        · exact HB9.out.set4
        · exact ⟨_, _, rfl, (HL9.out.same (but_set4 _ _ _ _)).unbut, HG9.out.set4 (by omega) _ _ _ _⟩
end Go.Proofs.Ytbobpgegkmcapaa

namespace Go.Proofs.Ytbobpgegkmcapaa
open Go.RowKit

def splitF (L : Lay) (pane kind fresh : Int) : Lay × Int :=
  if rightL L = false then (zeroL, 440) else if pane ∉ panesL L then (zeroL, 441) else if ¬ (kind = 2 ∨ kind = 3) ∨ fresh < 0 ∨ 999 < fresh ∨ fresh ∈ panesL L then (zeroL, 2)
  else if (panesL L).length = 16 then (zeroL, 7) else (splitR pane kind fresh L, 0)
theorem splitF_any {S : Nat → Prop} (L : Lay) (pane kind fresh : Int) (vk vw : Value) (w : World) (hS : ∀ b, w.heap.size ≤ b → S b) (h : LayAt S w L vk vw) : Calls Try.prog 33 #[.agg #[.int .i64 L.kind, .int .i64 L.pane, vk, vw], .int .i64 pane, .int .i64 kind, .int .i64 fresh] w (fun e w' => EdResI S w w' (splitF L pane kind fresh) e) := by
  unfold splitF
  by_cases hr : rightL L = false
  · rw [if_pos hr]
    exact split_no L pane kind fresh hr vk vw w h
  · rw [if_neg hr]
    have hr' : rightL L = true := by simpa using hr
    by_cases hp : pane ∉ panesL L
    · rw [if_pos hp]
      exact split_nopane L pane kind fresh hr' hp vk vw w h
    · rw [if_neg hp]
      have hp' : pane ∈ panesL L := Decidable.not_not.1 hp
      by_cases hk : ¬ (kind = 2 ∨ kind = 3)
      · rw [if_pos (.inl hk)]
        exact split_bad1 L pane kind fresh hr' hp' hk vk vw w h
      · have hk' := Decidable.not_not.1 hk
        by_cases h1 : fresh < 0
        · rw [if_pos (.inr (.inl h1))]
          exact split_bad2 L pane kind fresh hr' hp' hk' h1 vk vw w h
        · by_cases h2 : 999 < fresh
          · rw [if_pos (.inr (.inr (.inl h2)))]
            exact split_bad3 L pane kind fresh hr' hp' hk' h1 h2 vk vw w h
          · by_cases h3 : fresh ∈ panesL L
            · rw [if_pos (.inr (.inr (.inr h3)))]
              exact split_bad4 L pane kind fresh hr' hp' hk' h1 h2 h3 vk vw w h
            · rw [if_neg (by rintro (g | g | g | g) <;> contradiction)]
              by_cases h4 : (panesL L).length = 16
              · rw [if_pos h4]
                exact split_full L pane kind fresh hr' hp' hk' h1 h2 h3 h4 vk vw w h
              · rw [if_neg h4]
                have := split_ok L pane kind fresh hr' hp' hk' h1 h2 h3 h4 _ _ rfl vk vw w hS h
                exact this
def evenF (L : Lay) : Lay × Int := if rightL L = false then (zeroL, 440) else (evenL L, 0)
set_option maxHeartbeats 4000000 in
theorem even_ok' {S : Nat → Prop} (L : Lay) (hr : rightL L = true) (vk vw : Value) (w : World) (hS : ∀ b, w.heap.size ≤ b → S b) (h : LayAt S w L vk vw) : Calls Try.prog 31 #[.agg #[.int .i64 L.kind, .int .i64 L.pane, vk, vw]] w (fun e w' => EdResI S w w' (evenL L, 0) e) := by
  obtain ⟨hok, hn, -⟩ := right_ok hr
  have hc := chk_yes hr
  obtain ⟨ka, kc, e1, -⟩ := h.kids.shape rfl
  obtain ⟨wa, wc, e2, -⟩ := h.ints.shape rfl
  subst e1 e2
  have HC := Lib.hid fun W (g : Grows w W) => checked (h.grows g)
  rw [hc] at HC
  have hX := h.exc (m := w.heap.size + 1) (by omega)
  have HE := Lib.hid fun W (g : Grows w W) (hz : w.heap.size + 2 ≤ W.heap.size) => even_any L hok (by omega) (Exc (w.heap.size + 1) S) _ _ W (exc_fresh hS (by omega) (by omega)) (hX.grows g)
  obtain ⟨y, hy⟩ : ∃ z, evenL L = z := ⟨_, rfl⟩
  rw [hy] at HE ⊢
  clear h hc hr hok hn hS hX hy
  generalize L.kids.length = kn at *
  generalize L.ws.length = wn at *
  go_enter Try.func31, Try.ntmps31
  go_upto_region 1 with fail
  refine abs_worldM (fun W' => Grows w W' ∧ Blk W' w.heap.size 25 #[.int .i64 L.kind, .int .i64 L.pane, .slice ka kn kc, .slice wa wn wc] ∧ Blk W' (w.heap.size + 1) 25 #[.int .i64 0, .int .i64 0, .slice none 0 0, .slice none 0 0]) (boxes2 _ _ _) ?_
  rintro W1 ⟨hg1, hb0, hb3⟩
  obtain ⟨a0, a1, a2, a3⟩ := hb0.four
  obtain ⟨b0, b1, b2, b3⟩ := hb3.four
  obtain ⟨d0, d1, d2, d3⟩ := hb3.four'
  have hl0 := hb0.lt
  have hl3 := hb3.lt
  have HB0 := Lib.hid hb0
  have HB3 := Lib.hid hb3
  have HG1 := Lib.hid hg1
  clear hb0 hb3 hg1
  have hs1 : w.heap.size + 2 ≤ W1.heap.size := by omega
  go_wp2_with (first | (go_at_call 16; (go_must (with_reducible refine (HC.out _ (HG1.out.trans (by repeat' (first | (with_reducible exact hgW) | (with_reducible exact Grows.refl _) | (with_reducible refine Grows.alloc ?_ _) | (with_reducible refine Grows.drew ?_) | (with_reducible refine Grows.ext ?_ _ _))))).mono ?_)); rintro e w1 ⟨rfl, hg2⟩; have hgW : Grows W1 w1 := Grows.trans (by repeat' (first | (with_reducible exact hgW) | (with_reducible exact Grows.refl _) | (with_reducible refine Grows.alloc ?_ _) | (with_reducible refine Grows.drew ?_) | (with_reducible refine Grows.ext ?_ _ _))) hg2; obtain ⟨a0, a1, a2, a3⟩ := (HB0.out.grows hgW).four; obtain ⟨b0, b1, b2, b3⟩ := (HB3.out.grows hgW).four; obtain ⟨d0, d1, d2, d3⟩ := (HB3.out.grows hgW).four'; have hl0 := (HB0.out.grows hgW).lt; have hl3 := (HB3.out.grows hgW).lt) | (go_at_call 60; (go_must (with_reducible refine (HE.out _ (HG1.out.trans (by repeat' (first | (with_reducible exact hgW) | (with_reducible exact Grows.refl _) | (with_reducible refine Grows.alloc ?_ _) | (with_reducible refine Grows.drew ?_) | (with_reducible refine Grows.ext ?_ _ _)))) (Nat.le_trans hs1 (Grows.size (w := W1) (by repeat' (first | (with_reducible exact hgW) | (with_reducible exact Grows.refl _) | (with_reducible refine Grows.alloc ?_ _) | (with_reducible refine Grows.drew ?_) | (with_reducible refine Grows.ext ?_ _ _)))))).mono ?_)); rintro e w7 hE; obtain ⟨ka7, kc7, wa7, wc7, rfl, hl7, hg7⟩ := hE.open_; have hgV : Grows W1 w7 := Grows.trans (by repeat' (first | (with_reducible exact hgW) | (with_reducible exact Grows.refl _) | (with_reducible refine Grows.alloc ?_ _) | (with_reducible refine Grows.drew ?_) | (with_reducible refine Grows.ext ?_ _ _))) hg7; obtain ⟨a0, a1, a2, a3⟩ := (HB0.out.grows hgV).four; obtain ⟨b0, b1, b2, b3⟩ := (HB3.out.grows hgV).four; obtain ⟨d0, d1, d2, d3⟩ := (HB3.out.grows hgV).four'; have hl0 := (HB0.out.grows hgV).lt; have hl3 := (HB3.out.grows hgV).lt))
  refine ret_cell_tmp (t := 25) (n := w.heap.size + 1) (cs := #[.int .i64 y.kind, .int .i64 y.pane, .slice ka7 y.kids.length kc7, .slice wa7 y.ws.length wc7]) rfl rfl rfl ?_ Try.underlying25 rfl (by kernel_rfl) rfl ?_
  · exact (HB3.out.grows hgV).set4
  · exact ⟨_, _, rfl, (hl7.same (exc_set4 _ _ _ _)).unexc, (HG1.out.trans hgV).set4 (by omega) _ _ _ _⟩
theorem evenF_any {S : Nat → Prop} (L : Lay) (vk vw : Value) (w : World) (hS : ∀ b, w.heap.size ≤ b → S b) (h : LayAt S w L vk vw) : Calls Try.prog 31 #[.agg #[.int .i64 L.kind, .int .i64 L.pane, vk, vw]] w (fun e w' => EdResI S w w' (evenF L) e) := by
  unfold evenF
  by_cases hr : rightL L = false
  · rw [if_pos hr]
    exact even_no L hr vk vw w h
  · rw [if_neg hr]
    exact even_ok' L (by simpa using hr) vk vw w hS h
def swapF (L : Lay) (x y : Int) : Lay × Int := if rightL L = false then (zeroL, 440) else if x ∉ panesL L ∨ y ∉ panesL L then (zeroL, 441) else (swapL x y L, 0)
set_option maxHeartbeats 4000000 in
theorem swap_ok' {S : Nat → Prop} (L : Lay) (x y : Int) (hr : rightL L = true) (hp : x ∈ panesL L) (hp2 : y ∈ panesL L) (vk vw : Value) (w : World) (hS : ∀ b, w.heap.size ≤ b → S b) (h : LayAt S w L vk vw) : Calls Try.prog 32 #[.agg #[.int .i64 L.kind, .int .i64 L.pane, vk, vw], .int .i64 x, .int .i64 y] w (fun e w' => EdResI S w w' (swapL x y L, 0) e) := by
  obtain ⟨hok, hn, -⟩ := right_ok hr
  have hc := chk_yes hr
  obtain ⟨ka, kc, e1, -⟩ := h.kids.shape rfl
  obtain ⟨wa, wc, e2, -⟩ := h.ints.shape rfl
  subst e1 e2
  have HC := Lib.hid fun W (g : Grows w W) => checked (h.grows g)
  rw [hc] at HC
  have HP := Lib.hid fun W (g : Grows w W) => panes_any L hok (by omega) _ _ W (h.grows g)
  have hX := h.exc (m := w.heap.size + 1 + 1 + 1) (by omega)
  have HE := Lib.hid fun W (g : Grows w W) (hz : w.heap.size + 4 ≤ W.heap.size) (g1 : Blk W (w.heap.size + 1) 3 #[.int .i64 x]) (g2 : Blk W (w.heap.size + 1 + 1) 3 #[.int .i64 y]) => swap_any x y _ _ L hok (by omega) (Exc (w.heap.size + 1 + 1 + 1) S) _ _ W (exc_fresh hS (by omega) (by omega)) (hX.grows g) g1 g2
  obtain ⟨q, hy⟩ : ∃ z, swapL x y L = z := ⟨_, rfl⟩
  rw [hy] at HE ⊢
  clear h hc hr hok hn hS hX hy
  generalize L.kids.length = kn at *
  generalize L.ws.length = wn at *
  generalize panesL L = pl at *
  go_enter Try.func32, Try.ntmps32
  go_upto_region 1 with fail
  refine abs_worldM (fun W' => Grows w W' ∧ Blk W' w.heap.size 25 #[.int .i64 L.kind, .int .i64 L.pane, .slice ka kn kc, .slice wa wn wc] ∧ Blk W' (w.heap.size + 1) 3 #[.int .i64 x] ∧ Blk W' (w.heap.size + 1 + 1) 3 #[.int .i64 y] ∧ Blk W' (w.heap.size + 1 + 1 + 1) 25 #[.int .i64 0, .int .i64 0, .slice none 0 0, .slice none 0 0]) (boxes4 _ _ _ _ _) ?_
  rintro W1 ⟨hg1, hb0, hb1, hb2, hb3⟩
  obtain ⟨a0, a1, a2, a3⟩ := hb0.four
  obtain ⟨k0, -⟩ := hb1.one
  obtain ⟨k1, -⟩ := hb2.one
  obtain ⟨b0, b1, b2, b3⟩ := hb3.four
  obtain ⟨d0, d1, d2, d3⟩ := hb3.four'
  have hl0 := hb0.lt
  have hl1 := hb1.lt
  have hl2 := hb2.lt
  have hl3 := hb3.lt
  have HB0 := Lib.hid hb0
  have HB1 := Lib.hid hb1
  have HB2 := Lib.hid hb2
  have HB3 := Lib.hid hb3
  have HG1 := Lib.hid hg1
  clear hb0 hb1 hb2 hb3 hg1
  have hs1 : w.heap.size + 4 ≤ W1.heap.size := by omega
  go_wp2_with (first | (go_at_call 16; (go_must (with_reducible refine (HC.out _ (HG1.out.trans (by repeat' (first | (with_reducible exact hgW) | (with_reducible exact Grows.refl _) | (with_reducible refine Grows.alloc ?_ _) | (with_reducible refine Grows.drew ?_) | (with_reducible refine Grows.ext ?_ _ _))))).mono ?_)); rintro e w1 ⟨rfl, hg2⟩; have hgW : Grows W1 w1 := Grows.trans (by repeat' (first | (with_reducible exact hgW) | (with_reducible exact Grows.refl _) | (with_reducible refine Grows.alloc ?_ _) | (with_reducible refine Grows.drew ?_) | (with_reducible refine Grows.ext ?_ _ _))) hg2; obtain ⟨a0, a1, a2, a3⟩ := (HB0.out.grows hgW).four; obtain ⟨k0, -⟩ := (HB1.out.grows hgW).one; obtain ⟨k1, -⟩ := (HB2.out.grows hgW).one; obtain ⟨b0, b1, b2, b3⟩ := (HB3.out.grows hgW).four; obtain ⟨d0, d1, d2, d3⟩ := (HB3.out.grows hgW).four'; have hl0 := (HB0.out.grows hgW).lt; have hl1 := (HB1.out.grows hgW).lt; have hl2 := (HB2.out.grows hgW).lt; have hl3 := (HB3.out.grows hgW).lt) | (go_at_call 48; (go_must (with_reducible refine (HP.out _ (HG1.out.trans (by repeat' (first | (with_reducible exact hgW) | (with_reducible exact Grows.refl _) | (with_reducible refine Grows.alloc ?_ _) | (with_reducible refine Grows.drew ?_) | (with_reducible refine Grows.ext ?_ _ _))))).mono ?_)); rintro e w2 ⟨v2, rfl, hv3, hg3⟩; have hgW2 := hgW; clear hgW; have hgW : Grows W1 w2 := Grows.trans (hgW2.trans (by repeat' (first | (with_reducible exact Grows.refl _) | (with_reducible refine Grows.alloc ?_ _) | (with_reducible refine Grows.drew ?_) | (with_reducible refine Grows.ext ?_ _ _)))) hg3; obtain ⟨a0, a1, a2, a3⟩ := (HB0.out.grows hgW).four; obtain ⟨k0, -⟩ := (HB1.out.grows hgW).one; obtain ⟨k1, -⟩ := (HB2.out.grows hgW).one; obtain ⟨b0, b1, b2, b3⟩ := (HB3.out.grows hgW).four; obtain ⟨d0, d1, d2, d3⟩ := (HB3.out.grows hgW).four'; have hl0 := (HB0.out.grows hgW).lt; have hl1 := (HB1.out.grows hgW).lt; have hl2 := (HB2.out.grows hgW).lt; have hl3 := (HB3.out.grows hgW).lt) | (go_at_call 55; (go_must (with_reducible refine (contains_any _ _ _ _ (hv3.grows (by repeat' (first | (with_reducible exact Grows.refl _) | (with_reducible refine Grows.alloc ?_ _) | (with_reducible refine Grows.drew ?_) | (with_reducible refine Grows.ext ?_ _ _))))).mono ?_)); rintro e w4 ⟨rfl, rfl⟩) | (go_at_call 61; (go_must (with_reducible refine (HE.out _ (HG1.out.trans (by repeat' (first | (with_reducible exact hgW) | (with_reducible exact Grows.refl _) | (with_reducible refine Grows.alloc ?_ _) | (with_reducible refine Grows.drew ?_) | (with_reducible refine Grows.ext ?_ _ _)))) (Nat.le_trans hs1 (Grows.size (w := W1) (by repeat' (first | (with_reducible exact hgW) | (with_reducible exact Grows.refl _) | (with_reducible refine Grows.alloc ?_ _) | (with_reducible refine Grows.drew ?_) | (with_reducible refine Grows.ext ?_ _ _))))) (HB1.out.grows (by repeat' (first | (with_reducible exact hgW) | (with_reducible exact Grows.refl _) | (with_reducible refine Grows.alloc ?_ _) | (with_reducible refine Grows.drew ?_) | (with_reducible refine Grows.ext ?_ _ _)))) (HB2.out.grows (by repeat' (first | (with_reducible exact hgW) | (with_reducible exact Grows.refl _) | (with_reducible refine Grows.alloc ?_ _) | (with_reducible refine Grows.drew ?_) | (with_reducible refine Grows.ext ?_ _ _))))).mono ?_)); rintro e w7 hE; obtain ⟨ka7, kc7, wa7, wc7, rfl, hl7, hg7⟩ := hE.open_; have hgV : Grows W1 w7 := Grows.trans (by repeat' (first | (with_reducible exact hgW) | (with_reducible exact Grows.refl _) | (with_reducible refine Grows.alloc ?_ _) | (with_reducible refine Grows.drew ?_) | (with_reducible refine Grows.ext ?_ _ _))) hg7; obtain ⟨a0, a1, a2, a3⟩ := (HB0.out.grows hgV).four; obtain ⟨k0, -⟩ := (HB1.out.grows hgV).one; obtain ⟨k1, -⟩ := (HB2.out.grows hgV).one; obtain ⟨b0, b1, b2, b3⟩ := (HB3.out.grows hgV).four; obtain ⟨d0, d1, d2, d3⟩ := (HB3.out.grows hgV).four'; have hl0 := (HB0.out.grows hgV).lt; have hl1 := (HB1.out.grows hgV).lt; have hl2 := (HB2.out.grows hgV).lt; have hl3 := (HB3.out.grows hgV).lt))
  all_goals (try (exfalso; omega))
  refine ret_cell_tmp (t := 25) (n := w.heap.size + 1 + 1 + 1) (cs := #[.int .i64 q.kind, .int .i64 q.pane, .slice ka7 q.kids.length kc7, .slice wa7 q.ws.length wc7]) rfl rfl rfl ?_ Try.underlying25 rfl (by kernel_rfl) rfl ?_
  · exact (HB3.out.grows hgV).set4
  · exact ⟨_, _, rfl, (hl7.same (exc_set4 _ _ _ _)).unexc, (HG1.out.trans hgV).set4 (by omega) _ _ _ _⟩
theorem swapF_any {S : Nat → Prop} (L : Lay) (x y : Int) (vk vw : Value) (w : World) (hS : ∀ b, w.heap.size ≤ b → S b) (h : LayAt S w L vk vw) : Calls Try.prog 32 #[.agg #[.int .i64 L.kind, .int .i64 L.pane, vk, vw], .int .i64 x, .int .i64 y] w (fun e w' => EdResI S w w' (swapF L x y) e) := by
  unfold swapF
  by_cases hr : rightL L = false
  · rw [if_pos hr]
    exact swap_no L x y hr vk vw w h
  · rw [if_neg hr]
    have hr' : rightL L = true := by simpa using hr
    by_cases h1 : x ∉ panesL L
    · rw [if_pos (.inl h1)]
      exact swap_nopane1 L x y hr' h1 vk vw w h
    · by_cases h2 : y ∉ panesL L
      · rw [if_pos (.inr h2)]
        exact swap_nopane2 L x y hr' (Decidable.not_not.1 h1) h2 vk vw w h
      · rw [if_neg (by rintro (g | g) <;> contradiction)]
        exact swap_ok' L x y hr' (Decidable.not_not.1 h1) (Decidable.not_not.1 h2) vk vw w hS h
end Go.Proofs.Ytbobpgegkmcapaa

