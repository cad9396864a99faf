/-
  Walks: the leaf and the split of the laws. Walks: wakes. LayoutChecks. LayoutChecks, whole.
-/
import Derived.Test.YtbobpgegkmcapaaRows
import Derived.Test.YtbobpgegkmcapaaE1
import Derived.Test.YtbobpgegkmcapaaE2
import Derived.Test.YtbobpgegkmcapaaE3
import Derived.Test.YtbobpgegkmcapaaE5
import Derived.Test.YtbobpgegkmcapaaE8
import Derived.Test.YtbobpgegkmcapaaE9
import Derived.WalkKit
import Derived.WalkSpells
import Derived.WalkLawsBesides
import Derived.Handy
import Derived.Laws.Rows
import Derived.Great.BuildSlice
import Derived.Deep.Heap
import Derived.IntWalk
import Derived.Lib.Hide
import Derived.Outline
import Derived.Deep.Light
import Derived.Deep.LoopGhost
import Derived.BigGuardPart
import Derived.BigQuiet
import Derived.Deep.QuietTactic
import Derived.Deep.RegionHeld3
import Derived.Deep.DeepCutAuto
import Derived.Deep.CutBlock
import Derived.OwnWalk
import Derived.Maps.AppendAt
import Derived.Below
import Derived.Test.YtbobpgegkmcapaaE7
import Derived.Test.YtbobpgegkmcapaaE11
import Derived.Test.YtbobpgegkmcapaaE12
import Derived.Test.YtbobpgegkmcapaaE13
namespace Go.Proofs.Ytbobpgegkmcapaa
open Go.RowKit

theorem leafS_any (p : Int) (w : World) : Calls Try.prog 38 #[.int .i64 p] w (Ret (.agg #[.int .i64 1, .int .i64 p, .slice none 0 0, .slice none 0 0]) w) := by
  go_enter Try.func38, Try.ntmps38
  go_wp2
  go_returns
  exact ⟨rfl, (by repeat' (first | (with_reducible exact Grows.refl _) | (with_reducible refine Grows.alloc ?_ _) | (with_reducible refine Grows.drew ?_) | (with_reducible refine Grows.ext ?_ _ _)))⟩
theorem kids_pair {S : Nat → Prop} {w : World} {x y : Lay} {vk vw vk' vw' : Value} {n : Nat} (hn : w.heap.size = n) (hs : S n) (h : LayAt S w x vk vw) (h' : LayAt S w y vk' vw') : KidsAt S (w.alloc (.cells #[.int .i64 x.kind, .int .i64 x.pane, vk, vw, .int .i64 y.kind, .int .i64 y.pane, vk', vw'] 25)) (.slice (some ⟨n, 0, none⟩) 2 2) [x, y] := by
  subst hn
  have hb : Blk (w.alloc (.cells #[.int .i64 x.kind, .int .i64 x.pane, vk, vw, .int .i64 y.kind, .int .i64 y.pane, vk', vw'] 25)) w.heap.size 25 _ := Blk.new rfl
  refine ⟨fun i => if i = 0 then (vk, vw) else (vk', vw'), _, 2, rfl, Nat.le_refl _, Nat.le_trans (show 2 ≤ 3 by decide) (by decide), fun _ => ⟨_, 0, rfl, hb.lt, hs, fun i z hi => ?_⟩, fun i z hi => ?_⟩
  · match i, hi with
    | 0, hi =>
      obtain rfl : x = z := by simpa using hi
      exact ⟨hb.cell 0, hb.cell 1, hb.cell 2, hb.cell 3⟩
    | 1, hi =>
      obtain rfl : y = z := by simpa using hi
      exact ⟨hb.cell 4, hb.cell 5, hb.cell 6, hb.cell 7⟩
  · match i, hi with
    | 0, hi =>
      obtain rfl : x = z := by simpa using hi
      exact h.grows ((Grows.refl w).alloc _)
    | 1, hi =>
      obtain rfl : y = z := by simpa using hi
      exact h'.grows ((Grows.refl w).alloc _)
def onesC (m : Nat) : List Int := List.replicate m 1
theorem onesC_succ (m : Nat) : onesC (m + 1) = onesC m ++ [1] := List.replicate_succ'
theorem onesC_len (m : Nat) : (onesC m).length = m := List.length_replicate
set_option maxRecDepth 100000 in
set_option maxHeartbeats 4000000 in
theorem split37 {S : Nat → Prop} (kind : Int) (ks : List Lay) (ws : List Int) (he : ws = onesC ks.length) (hn : ks.length ≤ 1000) (vk : Value) (w : World) (hS : ∀ b, w.heap.size ≤ b → S b) (h : KidsAt S w vk ks) : Calls Try.prog 37 #[.int .i64 kind, vk] w (fun e w' => LRes S w w' (.mk kind 0 ks ws) e) := by
  obtain ⟨i3, hi3, hz3, hs3, hb3⟩ := info_parts info3
  obtain ⟨a, cap, G, rfl, hcap, hmx, -⟩ := h.open_ rfl
  have HK := Lib.hid h.lt
  have HS := Lib.hid hS
  subst he
  clear h hS
  go_enter Try.func37, Try.ntmps37
  go_upto_block 0 with fail
  refine abs_worldM (fun W => Grows w W ∧ Blk W w.heap.size 25 #[.int .i64 0, .int .i64 0, .slice none 0 0, .slice none 0 0] ∧ Blk W (w.heap.size + 1) 25 #[.int .i64 kind, .int .i64 0, .slice a ks.length cap, .slice none 0 0]) (boxes2 _ _ _) ?_
  rintro W0 ⟨hg0, hb0, hb1⟩
  have HB0 := Lib.hid hb0
  have HB1 := Lib.hid hb1
  have HG0 := Lib.hid hg0
  have hs0 : w.heap.size + 2 ≤ W0.heap.size := by have := hb1.lt; omega
  clear hb0 hb1 hg0
  go_wp2_with fail
  go_loopw [11] (fun i wr => ∃ (m : Nat) (wv : World) (v4 : Value), wv = wr ∧ m ≤ ks.length ∧ i = .int .i64 m ∧ Blk wv w.heap.size 25 #[.int .i64 0, .int .i64 0, .slice none 0 0, .slice none 0 0] ∧ Blk wv (w.heap.size + 1) 25 #[.int .i64 kind, .int .i64 0, .slice a ks.length cap, v4] ∧ wv.ownsRow W0.heap.size 3 1 v4 m (intC (onesC m)) ∧ KidsAt (fun b => S b ∧ b < w.heap.size) wv (.slice a ks.length cap) ks ∧ Grows w wv ∧ W0.heap.size ≤ wv.heap.size) (fun i _ => ks.length - (intOf i).toNat)
  case atStart => exact ⟨0, _, _, rfl, Nat.zero_le _, rfl, HB0.out, HB1.out, World.ownsRow_nil _ _ _ _, HK.out.grows HG0.out, HG0.out, Nat.le_refl _⟩
  case round =>
    obtain ⟨m, wv, v4, rfl, hm, rfl, hb0, hb1, hr, hk, hg, hbW⟩ := hrel
    have H0 := Lib.hid hb0
    have H1 := Lib.hid hb1
    have HR := Lib.hid hr
    have HKV := Lib.hid hk
    have HG := Lib.hid hg
    have hsz := hg.size
    have hl0 := hb0.lt
    have hl1 := hb1.lt
    obtain ⟨wa, wc, rfl⟩ : ∃ a c, v4 = .slice a m c := by
      obtain ⟨-, a', c', e, -⟩ := ownsRow_cells hr
      exact ⟨a', c', e⟩
    obtain ⟨a0, a1, a2, a3⟩ := hb1.four
    obtain ⟨f0, f1, f2, f3⟩ := hb1.four'
    clear hb0 hb1 hr hk hg
    by_cases hlt : m < ks.length
    · go_wp2_with (at_builtin; (refine wpList_appO _ rfl (.tmp 14) (.tmp 15) 23 rfl W0.heap.size 3 i3 _ 1 8 Try.underlying23 hi3 hz3 hs3 hb3 rfl (by decide) m 1 (intC (onesC m)) (intC [1]) (ownsRow_grows HR.out (by repeat' (first | (with_reducible exact Grows.refl _) | (with_reducible refine Grows.alloc ?_ _) | (with_reducible refine Grows.drew ?_) | (with_reducible refine Grows.ext ?_ _ _)))) (cells_int1 rfl) (intC_one _) (by unfold maxLen; omega) (by omega) (Nat.le_trans hbW (Grows.size (w := wv) (by repeat' (first | (with_reducible exact Grows.refl _) | (with_reducible refine Grows.alloc ?_ _) | (with_reducible refine Grows.drew ?_) | (with_reducible refine Grows.ext ?_ _ _))))) ?_); intro v9 w9 row9 q1 q2 q3 q4; obtain ⟨-, a9, c9, rfl, -⟩ := ownsRow_cells q1; have hne : ∀ n, n < W0.heap.size → row9 ≠ some n := (fun n hn e => (by have := (q3 n e).1; omega)); have hb9 := (H1.out.grows (by repeat' (first | (with_reducible exact Grows.refl _) | (with_reducible refine Grows.alloc ?_ _) | (with_reducible refine Grows.drew ?_) | (with_reducible refine Grows.ext ?_ _ _)))).kept q2 (hne _ (by omega)); have hb8 := (H0.out.grows (by repeat' (first | (with_reducible exact Grows.refl _) | (with_reducible refine Grows.alloc ?_ _) | (with_reducible refine Grows.drew ?_) | (with_reducible refine Grows.ext ?_ _ _)))).kept q2 (hne _ (by omega)); have hk9 := (HKV.out.grows (by repeat' (first | (with_reducible exact Grows.refl _) | (with_reducible refine Grows.alloc ?_ _) | (with_reducible refine Grows.drew ?_) | (with_reducible refine Grows.ext ?_ _ _)))).same (same_grown q2 (fun k e hs => (by have := (q3 k e).1; have := hs.2; omega))); have hg9 : Grows w w9 := appended_grows (HG.out.trans (by repeat' (first | (with_reducible exact Grows.refl _) | (with_reducible refine Grows.alloc ?_ _) | (with_reducible refine Grows.drew ?_) | (with_reducible refine Grows.ext ?_ _ _)))) q2 (fun k e => by have := (q3 k e).1; omega); obtain ⟨g0, g1, g2, g3⟩ := hb9.four; obtain ⟨f0, f1, f2, f3⟩ := hb9.four'; have hl9 := hb9.lt; have hr9 := ownsRow_setCell_below (a := ⟨w.heap.size + 1, 3, none⟩) q1 (show w.heap.size + 1 < W0.heap.size by omega) (.slice a9 (m + 1) c9); have hz9 : W0.heap.size ≤ w9.heap.size := Nat.le_trans hbW (Nat.le_trans (((Grows.refl wv).alloc _).size) q2.size); clear q1 q2 q3 q4)
      go_roundw
      case rel => exact ⟨m + 1, _, _, rfl, by omega, by go_num, hb8.other (by omega), hb9.set 3 _, by rw [onesC_succ, ← intC_append]; exact hr9, hk9.same (same_set fun hs => by have := hs.2; omega), hg9.setCell (by omega) _, by simpa using hz9⟩
      case measure => simp [intOf]; omega
    · have e : m = ks.length := by omega
      subst e
      have HL := Lib.hid (LayAt_mk.2 ⟨ints_of_cells (S := But w.heap.size S) (onesC_len _) (ownsRow_cells HR.out) (fun b e _ => but_fresh HS.out (Nat.le_refl _) b (by have := (HR.out.lt b e).1; omega)) (by rw [onesC_len]; omega), KidsAt.mono HKV.out (fun b _ hs => ⟨hs.1, .inl hs.2⟩)⟩ : LayAt (But w.heap.size S) wv (.mk kind 0 ks (onesC ks.length)) _ _)
      obtain ⟨b0, b1, b2, b3⟩ := H0.out.four
      obtain ⟨d0, d1, d2, d3⟩ := H0.out.four'
      go_wp2_with fail
      refine ret_cell (t := 25) (n := w.heap.size) (cs := #[.int .i64 kind, .int .i64 0, .slice a ks.length cap, .slice wa ks.length wc]) rfl rfl ?_ Try.underlying25 rfl (by kernel_rfl) rfl ?_
      · exact H0.out.set4
      · exact ⟨_, _, rfl, (HL.out.same (((but_set0.trans but_set0).trans but_set0).trans but_set0)).unbut, HG.out.set4 (Nat.le_refl _) _ _ _ _⟩
end Go.Proofs.Ytbobpgegkmcapaa

namespace Go.Proofs.Ytbobpgegkmcapaa
open Go.RowKit

def L1 : Lay := .mk 2 0 [leafL 1, .mk 3 0 [leafL 2, leafL 3] [1, 1]] [1, 1]
def L2 : Lay := .mk 2 0 [leafL 1, leafL 2] [1, 1]
def L23 : Lay := .mk 3 0 [leafL 2, leafL 3] [1, 1]
theorem wk_tile : tileP L1 ⟨0, 0, 5, 9⟩ = (([⟨1, ⟨0, 0, 5, 4⟩⟩, ⟨2, ⟨0, 5, 2, 4⟩⟩, ⟨3, ⟨3, 5, 2, 4⟩⟩], [⟨⟨0, 4, 5, 1⟩, true⟩, ⟨⟨2, 5, 1, 4⟩, false⟩]), 0) := by rfl
theorem wk_small : tileP L1 ⟨0, 0, 3, 4⟩ = (([], []), 442) := by rfl
def L132 : Lay := .mk 2 0 [leafL 1, leafL 3, leafL 2] [1, 1, 1]
def L13 : Lay := .mk 2 0 [leafL 1, leafL 3] [1, 1]
theorem wk_split : splitF L2 1 2 3 = (L132, 0) := by rfl
theorem wk_close : closeF L1 2 = (L13, 0) := by rfl
theorem wk_right : rightL L1 = true ∧ colsL L1 = 5 ∧ rowsL L1 = 3 := ⟨by rfl, by rfl, by rfl⟩
abbrev AnyB : Nat → Prop := fun _ => True
theorem EdResI.open_ {S : Nat → Prop} {w w' : World} {y : Lay} {n : Int} {e : Ending} (h : EdResI S w w' (y, n) e) : ∃ ka kc wa wc, e = .returned (.tuple #[.agg #[.int .i64 y.kind, .int .i64 y.pane, .slice ka y.kids.length kc, .slice wa y.ws.length wc], .int .i64 n]) ∧ LayAt S w' y (.slice ka y.kids.length kc) (.slice wa y.ws.length wc) ∧ Grows w w' := by
  obtain ⟨vk, vw, rfl, hl, hg⟩ := h
  obtain ⟨ka, kc, rfl, -⟩ := hl.kids.shape rfl
  obtain ⟨wa, wc, rfl, -⟩ := hl.ints.shape rfl
  exact ⟨ka, kc, wa, wc, rfl, hl, hg⟩
theorem ints_three {S : Nat → Prop} {w : World} {x y z : Int} {n : Nat} (hn : w.heap.size = n) (hs : S n) : IntsAt S (w.alloc (.cells #[.int .i64 x, .int .i64 y, .int .i64 z] 3)) (.slice (some ⟨n, 0, none⟩) 3 3) [x, y, z] := by
  subst hn
  have hb : Blk (w.alloc (.cells #[.int .i64 x, .int .i64 y, .int .i64 z] 3)) w.heap.size 3 _ := Blk.new rfl
  refine ⟨_, 3, rfl, Nat.le_refl _, Nat.le_trans (show 3 ≤ 4 by decide) (by decide), fun _ => ⟨_, 0, rfl, hb.lt, hs, fun i u hi => ?_⟩⟩
  match i, hi with
  | 0, hi =>
    obtain rfl : x = u := by simpa using hi
    exact hb.cell 0
  | 1, hi =>
    obtain rfl : y = u := by simpa using hi
    exact hb.cell 1
  | 2, hi =>
    obtain rfl : z = u := by simpa using hi
    exact hb.cell 2
theorem wk_a (vk : Value) (w : World) (h : KidsAt AnyB w vk [leafL 2, leafL 3]) : Calls Try.prog 37 #[.int .i64 3, vk] w (fun e w' => ∃ ka kc wa wc, e = .returned (.agg #[.int .i64 3, .int .i64 0, .slice ka 2 kc, .slice wa 2 wc]) ∧ LayAt AnyB w' L23 (.slice ka 2 kc) (.slice wa 2 wc) ∧ Grows w w') :=
  (split37 (S := AnyB) 3 [leafL 2, leafL 3] [1, 1] rfl (by decide) vk w (fun _ _ => trivial) h).mono fun _ _ h => h.open_
theorem wk_b (vk : Value) (w : World) (h : KidsAt AnyB w vk [leafL 1, L23]) : Calls Try.prog 37 #[.int .i64 2, vk] w (fun e w' => ∃ ka kc wa wc, e = .returned (.agg #[.int .i64 2, .int .i64 0, .slice ka 2 kc, .slice wa 2 wc]) ∧ LayAt AnyB w' L1 (.slice ka 2 kc) (.slice wa 2 wc) ∧ Grows w w') :=
  (split37 (S := AnyB) 2 [leafL 1, L23] [1, 1] rfl (by decide) vk w (fun _ _ => trivial) h).mono fun _ _ h => h.open_
theorem wk_c (vk : Value) (w : World) (h : KidsAt AnyB w vk [leafL 1, leafL 2]) : Calls Try.prog 37 #[.int .i64 2, vk] w (fun e w' => ∃ ka kc wa wc, e = .returned (.agg #[.int .i64 2, .int .i64 0, .slice ka 2 kc, .slice wa 2 wc]) ∧ LayAt AnyB w' L2 (.slice ka 2 kc) (.slice wa 2 wc) ∧ Grows w w') :=
  (split37 (S := AnyB) 2 [leafL 1, leafL 2] [1, 1] rfl (by decide) vk w (fun _ _ => trivial) h).mono fun _ _ h => h.open_
theorem wk_kids1 {w : World} {ka wa : Option Addr} {kc wc n : Nat} (hn : w.heap.size = n) (h : LayAt AnyB w L23 (.slice ka 2 kc) (.slice wa 2 wc)) : KidsAt AnyB (w.alloc (.cells #[.int .i64 1, .int .i64 1, .slice none 0 0, .slice none 0 0, .int .i64 3, .int .i64 0, .slice ka 2 kc, .slice wa 2 wc] 25)) (.slice (some ⟨n, 0, none⟩) 2 2) [leafL 1, L23] :=
  kids_pair (x := leafL 1) (y := L23) hn trivial (leaf_lay _ _ _) h
theorem wk_t (vk vw : Value) (w : World) (h : LayAt AnyB w L1 vk vw) : Calls Try.prog 10 #[.agg #[.int .i64 2, .int .i64 0, vk, vw], .agg #[.int .i64 0, .int .i64 0, .int .i64 5, .int .i64 9]] w (fun e w' => ∃ b off c v2 d, e = .returned (.tuple #[.slice (some ⟨b, off, none⟩) 3 c, .slice v2 2 d, .int .i64 0]) ∧ (b < w'.heap.size ∧ w'.cell? ⟨b, off + 2 * 5, none⟩ = some (.int .i64 3) ∧ w'.cell? ⟨b, off + 2 * 5 + 1, none⟩ = some (.int .i64 3) ∧ w'.cell? ⟨b, off + 2 * 5 + 2, none⟩ = some (.int .i64 5) ∧ w'.cell? ⟨b, off + 2 * 5 + 3, none⟩ = some (.int .i64 2) ∧ w'.cell? ⟨b, off + 2 * 5 + 4, none⟩ = some (.int .i64 4)) ∧ Grows w w') := by
  have h1 := tileP_any L1 0 0 5 9 vk vw w h
  rw [wk_tile] at h1
  refine h1.mono ?_
  rintro e w' ⟨v1, v2, rfl, c1, c2, hg⟩
  obtain ⟨a, c, rfl, -⟩ := cells_open c1
  obtain ⟨a', c', rfl, -⟩ := cells_open c2
  obtain ⟨b, off, q, rfl, hb, hq, g0, g1, g2, g3, g4⟩ := tile_at c1 rfl (i := 2) (by decide)
  obtain rfl : (⟨3, ⟨3, 5, 2, 4⟩⟩ : Til) = q := by simpa using hq
  exact ⟨b, off, c, a', c', rfl, ⟨hb, g0, g1, g2, g3, g4⟩, hg⟩
theorem wk_s (vk vw : Value) (w : World) (h : LayAt AnyB w L1 vk vw) : Calls Try.prog 10 #[.agg #[.int .i64 2, .int .i64 0, vk, vw], .agg #[.int .i64 0, .int .i64 0, .int .i64 3, .int .i64 4]] w (fun e w' => ∃ a c b d, e = .returned (.tuple #[.slice a 0 c, .slice b 0 d, .int .i64 442]) ∧ Grows w w') := by
  have h1 := tileP_any L1 0 0 3 4 vk vw w h
  rw [wk_small] at h1
  refine h1.mono ?_
  rintro e w' ⟨v1, v2, rfl, c1, c2, hg⟩
  obtain ⟨a, c, rfl, -⟩ := cells_open c1
  obtain ⟨a', c', rfl, -⟩ := cells_open c2
  exact ⟨a, c, a', c', rfl, hg⟩
theorem wk_m (vk vw : Value) (w : World) (h : LayAt AnyB w L1 vk vw) : Calls Try.prog 19 #[.agg #[.int .i64 2, .int .i64 0, vk, vw]] w (Ret (.tuple #[.int .i64 5, .int .i64 3, .int .i64 0]) w) := by
  have h1 := minP_yes L1 wk_right.1 vk vw w h
  rw [wk_right.2.1, wk_right.2.2] at h1
  exact h1
theorem wk_p (vk vw : Value) (w : World) (h : LayAt AnyB w L2 vk vw) : Calls Try.prog 33 #[.agg #[.int .i64 2, .int .i64 0, vk, vw], .int .i64 1, .int .i64 2, .int .i64 3] w (fun e w' => ∃ ka kc wa wc, e = .returned (.tuple #[.agg #[.int .i64 2, .int .i64 0, .slice ka 3 kc, .slice wa 3 wc], .int .i64 0]) ∧ LayAt AnyB w' L132 (.slice ka 3 kc) (.slice wa 3 wc) ∧ Grows w w') := by
  have h1 := splitF_any L2 1 2 3 vk vw w (fun _ _ => trivial) h
  rw [wk_split] at h1
  exact h1.mono fun _ _ h => h.open_
theorem wk_d (vk vw : Value) (w : World) (h : LayAt AnyB w L1 vk vw) : Calls Try.prog 34 #[.agg #[.int .i64 2, .int .i64 0, vk, vw], .int .i64 2] w (fun e w' => ∃ ka kc wa wc, e = .returned (.tuple #[.agg #[.int .i64 2, .int .i64 0, .slice ka 2 kc, .slice wa 2 wc], .int .i64 0]) ∧ LayAt AnyB w' L13 (.slice ka 2 kc) (.slice wa 2 wc) ∧ Grows w w') := by
  have h1 := closeF_any L1 2 vk vw w (fun _ _ => trivial) h
  rw [wk_close] at h1
  exact h1.mono fun _ _ h => h.open_
theorem wk_e (vk vw : Value) (w : World) (h : LayAt AnyB w L132 vk vw) : Calls Try.prog 20 #[.agg #[.int .i64 2, .int .i64 0, vk, vw]] w (fun e w' => ∃ v, e = .returned v ∧ IntsAt AnyB w' v [1, 3, 2] ∧ Grows w w') :=
  panesP_yes L132 (by rfl) vk vw w h
theorem wk_f (vk vw : Value) (w : World) (h : LayAt AnyB w L13 vk vw) : Calls Try.prog 20 #[.agg #[.int .i64 2, .int .i64 0, vk, vw]] w (fun e w' => ∃ v, e = .returned v ∧ IntsAt AnyB w' v [1, 3] ∧ Grows w w') :=
  panesP_yes L13 (by rfl) vk vw w h
theorem wk_q (v v' : Value) (l : List Int) (w : World) (h : IntsAt AnyB w v l) (h' : IntsAt AnyB w v' l) : Calls Try.prog 21 #[v, v'] w (Ret (.bool true) w) := by
  refine (equal_ints v v' l l w h h').mono ?_
  rintro e w' ⟨r, hr, rfl, hg⟩
  rw [hr.2 rfl]
  exact ⟨rfl, hg⟩
/-- A struct of a split in a block. -/
structure WkF (W : World) (p n : Nat) (L : Lay) (k1 : Option Addr) (c1 : Nat) (k2 : Option Addr) (c2 : Nat) : Prop where
  l : LayAt AnyB W L (.slice k1 n c1) (.slice k2 n c2)
  b : Blk W p 25 #[.int .i64 2, .int .i64 0, .slice k1 n c1, .slice k2 n c2]
theorem WkF.next {W W' : World} {p n : Nat} {L : Lay} {k1 : Option Addr} {c1 : Nat} {k2 : Option Addr} {c2 : Nat} (h : WkF W p n L k1 c1 k2 c2) (g : Grows W W') : WkF W' p n L k1 c1 k2 c2 := ⟨h.l.grows g, h.b.grows g⟩
def WkT (W : World) (b off : Nat) : Prop := b < W.heap.size ∧ W.cell? ⟨b, off + 2 * 5, none⟩ = some (.int .i64 3) ∧ W.cell? ⟨b, off + 2 * 5 + 1, none⟩ = some (.int .i64 3) ∧ W.cell? ⟨b, off + 2 * 5 + 2, none⟩ = some (.int .i64 5) ∧ W.cell? ⟨b, off + 2 * 5 + 3, none⟩ = some (.int .i64 2) ∧ W.cell? ⟨b, off + 2 * 5 + 4, none⟩ = some (.int .i64 4)
theorem WkT.next {W W' : World} {b off : Nat} (h : WkT W b off) (g : Grows W W') : WkT W' b off :=
  ⟨Nat.lt_of_lt_of_le h.1 g.size, (g.cellOf h.1).trans h.2.1, (g.cellOf h.1).trans h.2.2.1, (g.cellOf h.1).trans h.2.2.2.1, (g.cellOf h.1).trans h.2.2.2.2.1, (g.cellOf h.1).trans h.2.2.2.2.2⟩
set_option maxRecDepth 100000 in
set_option maxHeartbeats 4000000 in
theorem wakes_any (w : World) : Calls Try.prog 9 #[] w (Ret (.bool true) w) := by
  have hT := Grows.refl w
  go_enter Try.func9, Try.ntmps9
  go_upto_region 2 with (first | (go_at_call 38; (go_must (with_reducible refine (leafS_any _ _).mono ?_)); rintro e wq ⟨rfl, hq⟩; have hT0 := hT; clear hT; have hT := hT0.trans (Grows.trans (by repeat' (first | (with_reducible exact Grows.refl _) | (with_reducible refine Grows.alloc ?_ _) | (with_reducible refine Grows.drew ?_) | (with_reducible refine Grows.ext ?_ _ _))) hq); clear hT0 hq) | (go_at_call 37; (with_reducible refine (wk_a _ _ (kids_two rfl trivial)).mono ?_); rintro e wA ⟨kaA, kcA, waA, wcA, rfl, hlA, hgA⟩; have hT0 := hT; clear hT; have hT := hT0.trans (Grows.trans (by repeat' (first | (with_reducible exact Grows.refl _) | (with_reducible refine Grows.alloc ?_ _) | (with_reducible refine Grows.drew ?_) | (with_reducible refine Grows.ext ?_ _ _))) hgA); clear hT0 hgA) | (go_at_call 37; (with_reducible refine (wk_b _ _ (wk_kids1 rfl hlA)).mono ?_); rintro e wB ⟨kaB, kcB, waB, wcB, rfl, hlB, hgB⟩; have hT0 := hT; clear hT; have hT := hT0.trans (Grows.trans (by repeat' (first | (with_reducible exact Grows.refl _) | (with_reducible refine Grows.alloc ?_ _) | (with_reducible refine Grows.drew ?_) | (with_reducible refine Grows.ext ?_ _ _))) hgB); clear hT0 hgB))
  refine abs_worldM (fun W => Grows w W ∧ WkF W wB.heap.size 2 L1 kaB kcB waB wcB) ⟨hT.trans (by repeat' (first | (with_reducible exact Grows.refl _) | (with_reducible refine Grows.alloc ?_ _) | (with_reducible refine Grows.drew ?_) | (with_reducible refine Grows.ext ?_ _ _))), hlB.grows (by repeat' (first | (with_reducible exact Grows.refl _) | (with_reducible refine Grows.alloc ?_ _) | (with_reducible refine Grows.drew ?_) | (with_reducible refine Grows.ext ?_ _ _))), Blk.new (by simp)⟩ ?_
  clear hT hlB hlA
  generalize wB.heap.size = p1 at *
  rintro W1 ⟨hT, hf⟩
  have HF := Lib.hid hf
  obtain ⟨a0, a1, a2, a3⟩ := hf.b.four
  have hl0 := hf.b.lt
  clear hf
  go_upto_region 3 with (go_at_call 10; (go_must (with_reducible refine (wk_t _ _ _ (HF.out.l.grows (by repeat' (first | (with_reducible exact Grows.refl _) | (with_reducible refine Grows.alloc ?_ _) | (with_reducible refine Grows.drew ?_) | (with_reducible refine Grows.ext ?_ _ _))))).mono ?_)); rintro e wq ⟨tb, toff, tc, rv, rd, rfl, ht, hq⟩)
  refine abs_worldM (fun W => Grows W1 W ∧ WkT W tb toff) ⟨Grows.trans (by repeat' (first | (with_reducible exact Grows.refl _) | (with_reducible refine Grows.alloc ?_ _) | (with_reducible refine Grows.drew ?_) | (with_reducible refine Grows.ext ?_ _ _))) hq, ht⟩ ?_
  clear hq ht
  rintro W2 ⟨hg, ht⟩
  have hT0 := hT
  clear hT
  have hT := hT0.trans hg
  clear hT0
  have HF0 := HF
  clear HF a0 a1 a2 a3 hl0
  have HF := Lib.hid (HF0.out.next hg)
  clear HF0
  obtain ⟨a0, a1, a2, a3⟩ := HF.out.b.four
  have hl0 := HF.out.b.lt
  have HT := Lib.hid (show WkT _ _ _ from ht)
  clear ht hg
  go_upto_region 4 with (go_at_call 19; (go_must (with_reducible refine (wk_m _ _ _ (HF.out.l.grows (by repeat' (first | (with_reducible exact Grows.refl _) | (with_reducible refine Grows.alloc ?_ _) | (with_reducible refine Grows.drew ?_) | (with_reducible refine Grows.ext ?_ _ _))))).mono ?_)); rintro e wq ⟨rfl, hq⟩)
  refine abs_worldM (fun W => Grows W2 W) (Grows.trans (by repeat' (first | (with_reducible exact Grows.refl _) | (with_reducible refine Grows.alloc ?_ _) | (with_reducible refine Grows.drew ?_) | (with_reducible refine Grows.ext ?_ _ _))) hq) ?_
  clear hq
  rintro W3 hg
  have hT0 := hT
  clear hT
  have hT := hT0.trans hg
  clear hT0
  have HF0 := HF
  clear HF a0 a1 a2 a3 hl0
  have HF := Lib.hid (HF0.out.next hg)
  clear HF0
  obtain ⟨a0, a1, a2, a3⟩ := HF.out.b.four
  have hl0 := HF.out.b.lt
  have HT0 := HT
  clear HT
  have HT := Lib.hid (HT0.out.next hg)
  clear HT0
  clear hg
  go_upto_region 5 with (go_at_call 10; (go_must (with_reducible refine (wk_s _ _ _ (HF.out.l.grows (by repeat' (first | (with_reducible exact Grows.refl _) | (with_reducible refine Grows.alloc ?_ _) | (with_reducible refine Grows.drew ?_) | (with_reducible refine Grows.ext ?_ _ _))))).mono ?_)); rintro e wq ⟨sa, sc, sb, sd, rfl, hq⟩)
  refine abs_worldM (fun W => Grows W3 W) (Grows.trans (by repeat' (first | (with_reducible exact Grows.refl _) | (with_reducible refine Grows.alloc ?_ _) | (with_reducible refine Grows.drew ?_) | (with_reducible refine Grows.ext ?_ _ _))) hq) ?_
  clear hq
  rintro W4 hg
  have hT0 := hT
  clear hT
  have hT := hT0.trans hg
  clear hT0
  have HF0 := HF
  clear HF a0 a1 a2 a3 hl0
  have HF := Lib.hid (HF0.out.next hg)
  clear HF0
  obtain ⟨a0, a1, a2, a3⟩ := HF.out.b.four
  have hl0 := HF.out.b.lt
  have HT0 := HT
  clear HT
  have HT := Lib.hid (HT0.out.next hg)
  clear HT0
  clear hg
  have hU := Grows.refl W4
  go_upto_region 6 with (first | (go_at_call 38; (with_reducible refine (leafS_any _ _).mono ?_); rintro e wq ⟨rfl, hq⟩; have hU0 := hU; clear hU; have hU := hU0.trans (Grows.trans (by repeat' (first | (with_reducible exact Grows.refl _) | (with_reducible refine Grows.alloc ?_ _) | (with_reducible refine Grows.drew ?_) | (with_reducible refine Grows.ext ?_ _ _))) hq); clear hU0 hq) | (go_at_call 37; (with_reducible refine (wk_c _ _ (kids_two rfl trivial)).mono ?_); rintro e wC ⟨kaC, kcC, waC, wcC, rfl, hlC, hq⟩; have hU0 := hU; clear hU; have hU := hU0.trans (Grows.trans (by repeat' (first | (with_reducible exact Grows.refl _) | (with_reducible refine Grows.alloc ?_ _) | (with_reducible refine Grows.drew ?_) | (with_reducible refine Grows.ext ?_ _ _))) hq); clear hU0 hq) | (go_at_call 33; (with_reducible refine (wk_p _ _ _ (hlC.grows (by repeat' (first | (with_reducible exact Grows.refl _) | (with_reducible refine Grows.alloc ?_ _) | (with_reducible refine Grows.drew ?_) | (with_reducible refine Grows.ext ?_ _ _))))).mono ?_); rintro e wD ⟨kaD, kcD, waD, wcD, rfl, hlD, hq⟩; have hU0 := hU; clear hU; have hU := hU0.trans (Grows.trans (by repeat' (first | (with_reducible exact Grows.refl _) | (with_reducible refine Grows.alloc ?_ _) | (with_reducible refine Grows.drew ?_) | (with_reducible refine Grows.ext ?_ _ _))) hq); clear hU0 hq))
  refine abs_worldM (fun W => Grows W4 W ∧ WkF W wD.heap.size 3 L132 kaD kcD waD wcD) ⟨hU.trans (by repeat' (first | (with_reducible exact Grows.refl _) | (with_reducible refine Grows.alloc ?_ _) | (with_reducible refine Grows.drew ?_) | (with_reducible refine Grows.ext ?_ _ _))), hlD.grows (by repeat' (first | (with_reducible exact Grows.refl _) | (with_reducible refine Grows.alloc ?_ _) | (with_reducible refine Grows.drew ?_) | (with_reducible refine Grows.ext ?_ _ _))), Blk.new (by simp)⟩ ?_
  clear hU hlD hlC
  generalize wD.heap.size = p2 at *
  rintro W5 ⟨hg, hf2⟩
  have hT0 := hT
  clear hT
  have hT := hT0.trans hg
  clear hT0
  have HF0 := HF
  clear HF a0 a1 a2 a3 hl0
  have HF := Lib.hid (HF0.out.next hg)
  clear HF0
  obtain ⟨a0, a1, a2, a3⟩ := HF.out.b.four
  have hl0 := HF.out.b.lt
  have HT0 := HT
  clear HT
  have HT := Lib.hid (HT0.out.next hg)
  clear HT0
  clear hg
  have HF2 := Lib.hid hf2
  clear hf2
  go_upto_region 7 with (go_at_call 34; (go_must (with_reducible refine (wk_d _ _ _ (HF.out.l.grows (by repeat' (first | (with_reducible exact Grows.refl _) | (with_reducible refine Grows.alloc ?_ _) | (with_reducible refine Grows.drew ?_) | (with_reducible refine Grows.ext ?_ _ _))))).mono ?_)); rintro e wE ⟨kaE, kcE, waE, wcE, rfl, hlE, hq⟩)
  refine abs_worldM (fun W => Grows W5 W ∧ WkF W wE.heap.size 2 L13 kaE kcE waE wcE) ⟨Grows.trans (Grows.trans (by repeat' (first | (with_reducible exact Grows.refl _) | (with_reducible refine Grows.alloc ?_ _) | (with_reducible refine Grows.drew ?_) | (with_reducible refine Grows.ext ?_ _ _))) hq) (by repeat' (first | (with_reducible exact Grows.refl _) | (with_reducible refine Grows.alloc ?_ _) | (with_reducible refine Grows.drew ?_) | (with_reducible refine Grows.ext ?_ _ _))), hlE.grows (by repeat' (first | (with_reducible exact Grows.refl _) | (with_reducible refine Grows.alloc ?_ _) | (with_reducible refine Grows.drew ?_) | (with_reducible refine Grows.ext ?_ _ _))), Blk.new (by simp)⟩ ?_
  clear hq hlE
  generalize wE.heap.size = p3 at *
  rintro W6 ⟨hg, hf3⟩
  have hT0 := hT
  clear hT
  have hT := hT0.trans hg
  clear hT0
  have HF0 := HF
  clear HF a0 a1 a2 a3 hl0
  have HF := Lib.hid (HF0.out.next hg)
  clear HF0
  obtain ⟨a0, a1, a2, a3⟩ := HF.out.b.four
  have hl0 := HF.out.b.lt
  have HT0 := HT
  clear HT
  have HT := Lib.hid (HT0.out.next hg)
  clear HT0
  have hg2 := hg
  clear hg
  have HF3 := Lib.hid hf3
  have HF2' := Lib.hid (HF2.out.next hg2)
  obtain ⟨b0, b1, b2, b3⟩ := HF2'.out.b.four
  obtain ⟨d0, d1, d2, d3⟩ := hf3.b.four
  have hl2 := HF2'.out.b.lt
  have hl3 := hf3.b.lt
  obtain ⟨tl, t0, t1, t2, t3, t4⟩ := HT.out
  clear hf3 hg2
  have hU := Grows.refl W6
  go_wp2_with (first | (go_at_call 20; (with_reducible refine (wk_e _ _ _ (HF2'.out.l.grows (hU.trans (by repeat' (first | (with_reducible exact Grows.refl _) | (with_reducible refine Grows.alloc ?_ _) | (with_reducible refine Grows.drew ?_) | (with_reducible refine Grows.ext ?_ _ _)))))).mono ?_); rintro e wq ⟨vx, rfl, hvx, hq⟩; have hU0 := hU; clear hU; have hU := hU0.trans (Grows.trans (by repeat' (first | (with_reducible exact Grows.refl _) | (with_reducible refine Grows.alloc ?_ _) | (with_reducible refine Grows.drew ?_) | (with_reducible refine Grows.ext ?_ _ _))) hq); clear hU0 hq; obtain ⟨d0, d1, d2, d3⟩ := (HF3.out.b.grows hU).four; have hl3 := (HF3.out.b.grows hU).lt) | (go_at_call 20; (with_reducible refine (wk_f _ _ _ (HF3.out.l.grows (hU.trans (by repeat' (first | (with_reducible exact Grows.refl _) | (with_reducible refine Grows.alloc ?_ _) | (with_reducible refine Grows.drew ?_) | (with_reducible refine Grows.ext ?_ _ _)))))).mono ?_); rintro e wq ⟨vy, rfl, hvy, hq⟩; have hU0 := hU; clear hU; have hU := hU0.trans (Grows.trans (by repeat' (first | (with_reducible exact Grows.refl _) | (with_reducible refine Grows.alloc ?_ _) | (with_reducible refine Grows.drew ?_) | (with_reducible refine Grows.ext ?_ _ _))) hq); clear hU0 hq) | (go_at_call 21; (with_reducible refine (wk_q _ _ _ _ (hvx.grows (by repeat' (first | (with_reducible exact Grows.refl _) | (with_reducible refine Grows.alloc ?_ _) | (with_reducible refine Grows.drew ?_) | (with_reducible refine Grows.ext ?_ _ _)))) (ints_three rfl trivial)).mono ?_); rintro e wq ⟨rfl, hq⟩; have hU0 := hU; clear hU; have hU := hU0.trans (Grows.trans (by repeat' (first | (with_reducible exact Grows.refl _) | (with_reducible refine Grows.alloc ?_ _) | (with_reducible refine Grows.drew ?_) | (with_reducible refine Grows.ext ?_ _ _))) hq); clear hU0 hq; obtain ⟨d0, d1, d2, d3⟩ := (HF3.out.b.grows hU).four; have hl3 := (HF3.out.b.grows hU).lt) | (go_at_call 21; (with_reducible refine (wk_q _ _ _ _ (hvy.grows (by repeat' (first | (with_reducible exact Grows.refl _) | (with_reducible refine Grows.alloc ?_ _) | (with_reducible refine Grows.drew ?_) | (with_reducible refine Grows.ext ?_ _ _)))) (ints_two rfl trivial)).mono ?_); rintro e wq ⟨rfl, hq⟩; have hU0 := hU; clear hU; have hU := hU0.trans (Grows.trans (by repeat' (first | (with_reducible exact Grows.refl _) | (with_reducible refine Grows.alloc ?_ _) | (with_reducible refine Grows.drew ?_) | (with_reducible refine Grows.ext ?_ _ _))) hq); clear hU0 hq))
  go_returns
  exact ⟨rfl, hT.trans (hU.trans (by repeat' (first | (with_reducible exact Grows.refl _) | (with_reducible refine Grows.alloc ?_ _) | (with_reducible refine Grows.drew ?_) | (with_reducible refine Grows.ext ?_ _ _))))⟩
end Go.Proofs.Ytbobpgegkmcapaa

namespace Go.Proofs.Ytbobpgegkmcapaa
open Go.RowKit

theorem right_reg {L : Lay} (h : rightL L = true) : regL L = true := reg_ok L (right_ok h).1
end Go.Proofs.Ytbobpgegkmcapaa

namespace Go.Proofs.Ytbobpgegkmcapaa
open Go.RowKit

end Go.Proofs.Ytbobpgegkmcapaa

