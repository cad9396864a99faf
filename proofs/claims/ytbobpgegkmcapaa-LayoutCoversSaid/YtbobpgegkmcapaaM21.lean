/-
  Walks: grown, whatever the blocks. LayoutCovers.
-/
import Derived.Test.YtbobpgegkmcapaaRows
import Derived.Test.YtbobpgegkmcapaaM1
import Derived.Test.YtbobpgegkmcapaaM2
import Derived.Test.YtbobpgegkmcapaaM5
import Derived.Test.YtbobpgegkmcapaaM8
import Derived.Test.YtbobpgegkmcapaaM9
import Derived.Test.YtbobpgegkmcapaaM14
import Derived.Test.YtbobpgegkmcapaaM17
import Derived.WalkKit
import Derived.WalkSpells
import Derived.WalkLawsBesides
import Derived.Handy
import Derived.Laws.Rows
import Derived.Great.BuildSlice
import Derived.Deep.Heap
import Derived.IntWalk
import Derived.Lib.Hide
import Derived.Outline
import Derived.Deep.Light
import Derived.Deep.LoopGhost
import Derived.BigGuardPart
import Derived.BigQuiet
import Derived.Deep.QuietTactic
import Derived.Deep.RegionHeld3
import Derived.Deep.DeepCutAuto
import Derived.Deep.CutBlock
import Derived.OwnWalk
import Derived.Maps.AppendAt
import Derived.Test.YtbobpgegkmcapaaM20
import Derived.Test.YtbobpgegkmcapaaM7
import Derived.Test.YtbobpgegkmcapaaM18
namespace Go.Proofs.Ytbobpgegkmcapaa
open Go.RowKit

/-- The blocks but two. -/
def But2S (S : Nat → Prop) (a b : Nat) (n : Nat) : Prop := n ≠ a ∧ n ≠ b ∧ S n
theorem but2S_set {S : Nat → Prop} {a b i : Nat} {w : World} {v : Value} : Same (But2S S a b) w (w.setCell ⟨b, i, none⟩ v) := same_set fun h => Ne.irrefl h.2.1
theorem but2S_setA {S : Nat → Prop} {a b i : Nat} {w : World} {v : Value} : Same (But2S S a b) w (w.setCell ⟨a, i, none⟩ v) := same_set fun h => Ne.irrefl h.1
set_option maxRecDepth 100000 in
set_option maxHeartbeats 4000000 in
theorem grown_anyS {S : Nat → Prop} (xs : List Edt) (a : Option Addr) (n c : Nat) (w : World) (hS : ∀ b, w.heap.size ≤ b → S b) (hn : xs.length = n) (hnc : n ≤ c) (hnm : n ≤ 9223372036854775807) (h : CellsAt 5 w (.slice a n c) n (edC xs)) : Calls Try.prog 26 #[.slice a n c] w (fun e w' => LRes S w w' (growF xs) e) := by
  obtain ⟨k, hk⟩ : ∃ k : Nat, min n 20 = k := ⟨_, rfl⟩
  have hkn : k ≤ n ∧ k ≤ 20 ∧ (k < n → k = 20) := by omega
  have hmin := min2_run (n : Int) 20
  rw [show min (n : Int) 20 = (k : Int) by omega] at hmin
  have HGF := Lib.hid (show growF xs = (xs.take k).foldl stepG (leafL 0) by
    unfold growF
    rcases Nat.lt_or_ge k n with q | q
    · rw [hkn.2.2 q]
    · rw [List.take_of_length_le (by omega), List.take_of_length_le (by omega)])
  have HC := Lib.hid h
  have HN := Lib.hid hn
  have HS := Lib.hid hS
  clear h hk hn hS
  go_enter Try.func26, Try.ntmps26
  go_upto_region 2 with (go_at_call 38; (with_reducible refine (leafS_any _ _).mono ?_); rintro e wq ⟨rfl, hq⟩; have hbq := (Blk.new (w := w) (n := w.heap.size) (t := 25) (cs := #[.int .i64 0, .int .i64 0, .slice none 0 0, .slice none 0 0]) rfl).grows (w' := wq) (Grows.trans (by repeat' (first | (with_reducible exact Grows.refl _) | (with_reducible refine Grows.alloc ?_ _) | (with_reducible refine Grows.drew ?_) | (with_reducible refine Grows.ext ?_ _ _))) hq); have hgq : Grows w wq := Grows.trans (by repeat' (first | (with_reducible exact Grows.refl _) | (with_reducible refine Grows.alloc ?_ _) | (with_reducible refine Grows.drew ?_) | (with_reducible refine Grows.ext ?_ _ _))) hq)
  refine abs_worldM (fun W => Grows w W ∧ Blk W w.heap.size 25 #[.int .i64 0, .int .i64 0, .slice none 0 0, .slice none 0 0] ∧ Blk W wq.heap.size 25 #[.int .i64 1, .int .i64 0, .slice none 0 0, .slice none 0 0]) ⟨hgq.trans (by repeat' (first | (with_reducible exact Grows.refl _) | (with_reducible refine Grows.alloc ?_ _) | (with_reducible refine Grows.drew ?_) | (with_reducible refine Grows.ext ?_ _ _))), hbq.grows (by repeat' (first | (with_reducible exact Grows.refl _) | (with_reducible refine Grows.alloc ?_ _) | (with_reducible refine Grows.drew ?_) | (with_reducible refine Grows.ext ?_ _ _))), Blk.new (by simp)⟩ ?_
  have hp3 : w.heap.size < wq.heap.size := hbq.lt
  clear hbq hgq
  generalize wq.heap.size = p3 at *
  rintro W0 ⟨hg0, hb2, hb3⟩
  have HG0 := Lib.hid hg0
  have HB2 := Lib.hid hb2
  have HB3 := Lib.hid hb3
  clear hg0 hb2 hb3
  go_wp2_with fail
  go_loopw [17] (fun i wr => ∃ (m : Nat) (wv : World) (L : Lay) (ka : Option Addr) (kc : Nat) (wa : Option Addr) (wc : Nat), wv = wr ∧ m ≤ k ∧ i = .int .i64 m ∧ L = (xs.take m).foldl stepG (leafL 0) ∧ rightL L = true ∧ Blk wv p3 25 #[.int .i64 L.kind, .int .i64 L.pane, .slice ka L.kids.length kc, .slice wa L.ws.length wc] ∧ Blk wv w.heap.size 25 #[.int .i64 0, .int .i64 0, .slice none 0 0, .slice none 0 0] ∧ LayAt (But2S S w.heap.size p3) wv L (.slice ka L.kids.length kc) (.slice wa L.ws.length wc) ∧ Grows w wv) (fun i _ => k - (intOf i).toNat)
  case atStart => exact ⟨0, _, leafL 0, _, _, _, _, rfl, Nat.zero_le _, rfl, rfl, right_leaf0, HB3.out, HB2.out, leaf_lay _ _ _, HG0.out⟩
  case round =>
    clear HB3 HB2 HG0
    obtain ⟨m, wv, L, ka, kc, wa, wc, rfl, hm, rfl, hL, hr, hb3, hb2, hl, hg⟩ := hrel
    have hok := (rightL_iff.1 hr).1
    have hpp := panes_pos L hok
    have hsz := hg.size
    have HLF := Lib.hid hL
    have HR := Lib.hid hr
    have HB3 := Lib.hid hb3
    have HB2 := Lib.hid hb2
    have HLL := Lib.hid hl
    have HG := Lib.hid hg
    obtain ⟨a0, a1, a2, a3⟩ := hb3.four
    have hl3 := hb3.lt
    by_cases hlt : m < k
    · obtain ⟨eb, eoff, x, rfl, heb, hx, e0, e1, e2, e3, e4⟩ := edit_at (HC.out.grows hg) HN.out (i := m) (by omega)
      have HX := Lib.hid hx
      have HP := Lib.hid fun W (g : Grows wv W) => panesP_yes L hr _ _ W (hl.grows g)
      have HA := Lib.hid fun (pane : Int) W (g : Grows wv W) => apply_any (S := But2S S w.heap.size p3) L x pane _ _ W (fun b hb => ⟨by have := g.size; omega, by have := g.size; have := hb3.lt; omega, HS.out b (by have := g.size; have := hg.size; omega)⟩) (hl.grows g)
      obtain ⟨pl, hpl⟩ : ∃ z, panesL L = z := ⟨_, rfl⟩
      rw [hpl] at HP hpp
      obtain ⟨pn, hpn⟩ : ∃ z, pl.length = z := ⟨_, rfl⟩
      rw [hpn] at hpp
      have HPL := Lib.hid (And.intro hpl hpn)
      clear hL hr hb3 hb2 hl hg hok hx hpl hpn
      go_upto_region 5 with fail
      refine abs_worldM (fun W => Grows wv W ∧ Blk W wv.heap.size 54 #[.int .i64 x.kind, .int .i64 x.at_, .int .i64 x.pane, .int .i64 x.way, .int .i64 x.n]) ⟨(by repeat' (first | (with_reducible exact Grows.refl _) | (with_reducible refine Grows.alloc ?_ _) | (with_reducible refine Grows.drew ?_) | (with_reducible refine Grows.ext ?_ _ _))), Blk.new (by simp)⟩ ?_
      obtain ⟨p5, hp5⟩ : ∃ z, wv.heap.size = z := ⟨_, rfl⟩
      rw [hp5]
      rintro W1 ⟨hg1, hb5⟩
      have HG1 := Lib.hid hg1
      have HB5 := Lib.hid hb5
      obtain ⟨a0, a1, a2, a3⟩ := (HB3.out.grows hg1).four
      have hl3 := (HB3.out.grows hg1).lt
      clear hg1 hb5 e0 e1 e2 e3 e4 heb
      go_upto_region 6 with (go_at_call 20; (go_must (with_reducible refine (HP.out _ (HG1.out.trans (by repeat' (first | (with_reducible exact Grows.refl _) | (with_reducible refine Grows.alloc ?_ _) | (with_reducible refine Grows.drew ?_) | (with_reducible refine Grows.ext ?_ _ _))))).mono ?_)); rintro e w2 ⟨v2, rfl, hv2, hg2⟩; obtain ⟨va, vc, rfl, -, -⟩ := hv2.shape HPL.out.2)
      refine abs_worldM (fun W => Grows W1 W ∧ IntsAt AnyB W (.slice va pn vc) pl) ⟨Grows.trans (by repeat' (first | (with_reducible exact Grows.refl _) | (with_reducible refine Grows.alloc ?_ _) | (with_reducible refine Grows.drew ?_) | (with_reducible refine Grows.ext ?_ _ _))) hg2, hv2.grows (by repeat' (first | (with_reducible exact Grows.refl _) | (with_reducible refine Grows.alloc ?_ _) | (with_reducible refine Grows.drew ?_) | (with_reducible refine Grows.ext ?_ _ _)))⟩ ?_
      clear hg2 hv2
      rintro W2 ⟨hg2, hv2⟩
      have HG2 := Lib.hid (HG1.out.trans hg2)
      obtain ⟨a0, a1, a2, a3⟩ := (HB3.out.grows HG2.out).four
      have hl3 := (HB3.out.grows HG2.out).lt
      obtain ⟨b0, b1, b2, b3, b4⟩ := (HB5.out.grows hg2).five
      have hl5 := (HB5.out.grows hg2).lt
      by_cases hat : 0 ≤ x.at_
      · obtain ⟨j, hj1, hj2, hj3⟩ := rem_index hat hpp
        obtain ⟨pb, poff, q, rfl, hpb, -, hq, -, q0⟩ := (hv2.open_ HPL.out.2).elim fun _ h => h.elim fun _ h => (by cases h.1; exact h.2.2.2.at_ (i := j) (by rw [HPL.out.2]; exact hj2))
        have HPE := Lib.hid (paneE_in (L := L) (j := j) (p := q) hat (by rw [HPL.out.1, HPL.out.2]; exact hj3) (by rw [HPL.out.1]; exact hq))
        have hpn0 : ¬ (pn : Int) = 0 := by omega
        clear hv2 hq hj3 hg2
        obtain ⟨y, ne, hap⟩ : ∃ y ne, applyF L x q = (y, ne) := ⟨_, _, rfl⟩
        have HQ := Lib.hid hap
        clear hap
        go_upto_region 10 with (go_at_call 24; (go_must (with_reducible refine (HA.out _ _ (HG2.out.trans (by repeat' (first | (with_reducible exact Grows.refl _) | (with_reducible refine Grows.alloc ?_ _) | (with_reducible refine Grows.drew ?_) | (with_reducible refine Grows.ext ?_ _ _))))).mono ?_)); rintro e w3 hE; obtain ⟨ka3, kc3, wa3, wc3, rfl, hly, hg3⟩ := hE.pair HQ.out)
        refine abs_worldM (fun W => Grows W2 W ∧ Blk W w3.heap.size 25 #[.int .i64 y.kind, .int .i64 y.pane, .slice ka3 y.kids.length kc3, .slice wa3 y.ws.length wc3] ∧ LayAt (But2S S w.heap.size p3) W y (.slice ka3 y.kids.length kc3) (.slice wa3 y.ws.length wc3)) ⟨Grows.trans (Grows.trans (by repeat' (first | (with_reducible exact Grows.refl _) | (with_reducible refine Grows.alloc ?_ _) | (with_reducible refine Grows.drew ?_) | (with_reducible refine Grows.ext ?_ _ _))) hg3) (by repeat' (first | (with_reducible exact Grows.refl _) | (with_reducible refine Grows.alloc ?_ _) | (with_reducible refine Grows.drew ?_) | (with_reducible refine Grows.ext ?_ _ _))), Blk.new (by simp), hly.grows (by repeat' (first | (with_reducible exact Grows.refl _) | (with_reducible refine Grows.alloc ?_ _) | (with_reducible refine Grows.drew ?_) | (with_reducible refine Grows.ext ?_ _ _)))⟩ ?_
        clear hg3 hly hE a0 a1 a2 a3 hl3 b0 b1 b2 b3 b4 hl5
        generalize w3.heap.size = p8 at *
        rintro W4 ⟨hg4, hb8, hly⟩
        have HG4 := Lib.hid (HG2.out.trans hg4)
        have HLY := Lib.hid hly
        obtain ⟨a0, a1, a2, a3⟩ := (HB3.out.grows HG4.out).four
        obtain ⟨f0, f1, f2, f3⟩ := (HB3.out.grows HG4.out).four'
        have hl3 := (HB3.out.grows HG4.out).lt
        obtain ⟨m0, m1, m2, m3⟩ := hb8.four
        have hl8 := hb8.lt
        clear hg4 hb8 hly
        by_cases hne : ne = 0
        · subst hne
          have HSY := Lib.hid (show y = (xs.take (m + 1)).foldl stepG (leafL 0) by rw [take_snoc HX.out, List.foldl_append, ← HLF.out]; exact (step_yes HPE.out HQ.out).symm)
          have HRY := Lib.hid (show rightL y = true by rw [← step_yes HPE.out HQ.out]; exact right_step HR.out x)
          go_wp2_with fail
          go_roundw
          case rel => exact ⟨m + 1, _, y, _, _, _, _, rfl, by omega, by go_num, HSY.out, HRY.out, (HB3.out.grows HG4.out).set4, ((((HB2.out.grows HG4.out).other (by omega)).other (by omega)).other (by omega)).other (by omega), HLY.out.same (((but2S_set.trans but2S_set).trans but2S_set).trans but2S_set), (HG.out.trans HG4.out).set4 (by omega) _ _ _ _⟩
          case measure => simp [intOf]; omega
        · have hne2 : (ne == 0) = false := by simpa using hne
          have HSY := Lib.hid (show L = (xs.take (m + 1)).foldl stepG (leafL 0) by rw [take_snoc HX.out, List.foldl_append, ← HLF.out]; exact (step_no HPE.out HQ.out hne).symm)
          clear hne
          go_wp2_with fail
          go_roundw
          case rel => exact ⟨m + 1, _, L, _, _, _, _, rfl, by omega, by go_num, HSY.out, HR.out, HB3.out.grows (HG4.out.trans (by repeat' (first | (with_reducible exact Grows.refl _) | (with_reducible refine Grows.alloc ?_ _) | (with_reducible refine Grows.drew ?_) | (with_reducible refine Grows.ext ?_ _ _)))), HB2.out.grows (HG4.out.trans (by repeat' (first | (with_reducible exact Grows.refl _) | (with_reducible refine Grows.alloc ?_ _) | (with_reducible refine Grows.drew ?_) | (with_reducible refine Grows.ext ?_ _ _)))), HLL.out.grows (HG4.out.trans (by repeat' (first | (with_reducible exact Grows.refl _) | (with_reducible refine Grows.alloc ?_ _) | (with_reducible refine Grows.drew ?_) | (with_reducible refine Grows.ext ?_ _ _)))), HG.out.trans (HG4.out.trans (by repeat' (first | (with_reducible exact Grows.refl _) | (with_reducible refine Grows.alloc ?_ _) | (with_reducible refine Grows.drew ?_) | (with_reducible refine Grows.ext ?_ _ _))))⟩
          case measure => simp [intOf]; omega
      · have HPE := Lib.hid (paneE_out (L := L) hat)
        clear hv2 hg2
        obtain ⟨y, ne, hap⟩ : ∃ y ne, applyF L x x.pane = (y, ne) := ⟨_, _, rfl⟩
        have HQ := Lib.hid hap
        clear hap
        go_upto_region 10 with (go_at_call 24; (go_must (with_reducible refine (HA.out _ _ (HG2.out.trans (by repeat' (first | (with_reducible exact Grows.refl _) | (with_reducible refine Grows.alloc ?_ _) | (with_reducible refine Grows.drew ?_) | (with_reducible refine Grows.ext ?_ _ _))))).mono ?_)); rintro e w3 hE; obtain ⟨ka3, kc3, wa3, wc3, rfl, hly, hg3⟩ := hE.pair HQ.out)
        refine abs_worldM (fun W => Grows W2 W ∧ Blk W w3.heap.size 25 #[.int .i64 y.kind, .int .i64 y.pane, .slice ka3 y.kids.length kc3, .slice wa3 y.ws.length wc3] ∧ LayAt (But2S S w.heap.size p3) W y (.slice ka3 y.kids.length kc3) (.slice wa3 y.ws.length wc3)) ⟨Grows.trans (Grows.trans (by repeat' (first | (with_reducible exact Grows.refl _) | (with_reducible refine Grows.alloc ?_ _) | (with_reducible refine Grows.drew ?_) | (with_reducible refine Grows.ext ?_ _ _))) hg3) (by repeat' (first | (with_reducible exact Grows.refl _) | (with_reducible refine Grows.alloc ?_ _) | (with_reducible refine Grows.drew ?_) | (with_reducible refine Grows.ext ?_ _ _))), Blk.new (by simp), hly.grows (by repeat' (first | (with_reducible exact Grows.refl _) | (with_reducible refine Grows.alloc ?_ _) | (with_reducible refine Grows.drew ?_) | (with_reducible refine Grows.ext ?_ _ _)))⟩ ?_
        clear hg3 hly hE a0 a1 a2 a3 hl3 b0 b1 b2 b3 b4 hl5
        generalize w3.heap.size = p8 at *
        rintro W4 ⟨hg4, hb8, hly⟩
        have HG4 := Lib.hid (HG2.out.trans hg4)
        have HLY := Lib.hid hly
        obtain ⟨a0, a1, a2, a3⟩ := (HB3.out.grows HG4.out).four
        obtain ⟨f0, f1, f2, f3⟩ := (HB3.out.grows HG4.out).four'
        have hl3 := (HB3.out.grows HG4.out).lt
        obtain ⟨m0, m1, m2, m3⟩ := hb8.four
        have hl8 := hb8.lt
        clear hg4 hb8 hly
        by_cases hne : ne = 0
        · subst hne
          have HSY := Lib.hid (show y = (xs.take (m + 1)).foldl stepG (leafL 0) by rw [take_snoc HX.out, List.foldl_append, ← HLF.out]; exact (step_yes HPE.out HQ.out).symm)
          have HRY := Lib.hid (show rightL y = true by rw [← step_yes HPE.out HQ.out]; exact right_step HR.out x)
          go_wp2_with fail
          go_roundw
          case rel => exact ⟨m + 1, _, y, _, _, _, _, rfl, by omega, by go_num, HSY.out, HRY.out, (HB3.out.grows HG4.out).set4, ((((HB2.out.grows HG4.out).other (by omega)).other (by omega)).other (by omega)).other (by omega), HLY.out.same (((but2S_set.trans but2S_set).trans but2S_set).trans but2S_set), (HG.out.trans HG4.out).set4 (by omega) _ _ _ _⟩
          case measure => simp [intOf]; omega
        · have hne2 : (ne == 0) = false := by simpa using hne
          have HSY := Lib.hid (show L = (xs.take (m + 1)).foldl stepG (leafL 0) by rw [take_snoc HX.out, List.foldl_append, ← HLF.out]; exact (step_no HPE.out HQ.out hne).symm)
          clear hne
          go_wp2_with fail
          go_roundw
          case rel => exact ⟨m + 1, _, L, _, _, _, _, rfl, by omega, by go_num, HSY.out, HR.out, HB3.out.grows (HG4.out.trans (by repeat' (first | (with_reducible exact Grows.refl _) | (with_reducible refine Grows.alloc ?_ _) | (with_reducible refine Grows.drew ?_) | (with_reducible refine Grows.ext ?_ _ _)))), HB2.out.grows (HG4.out.trans (by repeat' (first | (with_reducible exact Grows.refl _) | (with_reducible refine Grows.alloc ?_ _) | (with_reducible refine Grows.drew ?_) | (with_reducible refine Grows.ext ?_ _ _)))), HLL.out.grows (HG4.out.trans (by repeat' (first | (with_reducible exact Grows.refl _) | (with_reducible refine Grows.alloc ?_ _) | (with_reducible refine Grows.drew ?_) | (with_reducible refine Grows.ext ?_ _ _)))), HG.out.trans (HG4.out.trans (by repeat' (first | (with_reducible exact Grows.refl _) | (with_reducible refine Grows.alloc ?_ _) | (with_reducible refine Grows.drew ?_) | (with_reducible refine Grows.ext ?_ _ _))))⟩
          case measure => simp [intOf]; omega
    · have e : m = k := by omega
      subst e
      have HGL := Lib.hid (HGF.out.trans HLF.out.symm)
      obtain ⟨b0, b1, b2, b3⟩ := hb2.four
      obtain ⟨d0, d1, d2, d3⟩ := hb2.four'
      have hl2 := hb2.lt
      clear hL hr hb3 hb2 hl hg hok hpp
      generalize L.kids.length = kn at *
      generalize L.ws.length = wn at *
      go_wp2_with fail
      refine ret_cell (t := 25) (n := w.heap.size) (cs := #[.int .i64 L.kind, .int .i64 L.pane, .slice ka kn kc, .slice wa wn wc]) rfl rfl ?_ Try.underlying25 rfl (by kernel_rfl) rfl ?_
      · exact HB2.out.set4
      · rw [HGL.out]
        exact ⟨_, _, rfl, (HLL.out.same (((but2S_setA.trans but2S_setA).trans but2S_setA).trans but2S_setA)).mono (fun _ _ h => h.2.2), HG.out.set4 (Nat.le_refl _) _ _ _ _⟩
end Go.Proofs.Ytbobpgegkmcapaa

namespace Go.Proofs.Ytbobpgegkmcapaa
open Go.RowKit

/-- A layout in a block of its own, from blocks of S. -/
structure LyS (S : Nat → Prop) (W : World) (p : Nat) (L : Lay) (k1 : Option Addr) (c1 : Nat) (k2 : Option Addr) (c2 : Nat) : Prop where
  l : LayAt S W L (.slice k1 L.kids.length c1) (.slice k2 L.ws.length c2)
  b : Blk W p 25 #[.int .i64 L.kind, .int .i64 L.pane, .slice k1 L.kids.length c1, .slice k2 L.ws.length c2]
theorem LyS.next {S : Nat → Prop} {W W' : World} {p : Nat} {L : Lay} {k1 : Option Addr} {c1 : Nat} {k2 : Option Addr} {c2 : Nat} (h : LyS S W p L k1 c1 k2 c2) (g : Grows W W') : LyS S W' p L k1 c1 k2 c2 := ⟨h.l.grows g, h.b.grows g⟩
theorem LyS.same {S : Nat → Prop} {W W' : World} {p : Nat} {L : Lay} {k1 : Option Addr} {c1 : Nat} {k2 : Option Addr} {c2 : Nat} (h : LyS S W p L k1 c1 k2 c2) (g : Same S W W') (hp : S p) : LyS S W' p L k1 c1 k2 c2 := ⟨h.l.same g, h.b.same g hp⟩
theorem Same.mono' {S S' : Nat → Prop} {w w' : World} (h : Same S w w') (hS : ∀ b, S' b → S b) : Same S' w w' := ⟨h.size, fun b hb hs => h.block b hb (hS b hs)⟩
theorem covs_small (l : List Rct) (h : l.length ≤ 1000) (y x : Int) : (0 : Int) ≤ covs l y x ∧ (covs l y x : Int) ≤ 1000 := by
  have := covs_le l y x
  omega
theorem covs_small2 (l : List Rct) (h : l.length ≤ 500) (y x : Int) : (0 : Int) ≤ covs l y x ∧ (covs l y x : Int) ≤ 500 := by
  have := covs_le l y x
  omega
theorem cov_in {row col : Int} {rn cn N j : Nat} (hj : j < N) (hN : N = rn * cn) : covR ⟨row, col, rn, cn⟩ (cy row cn j) (cx col cn j) = 1 := by
  have hc : 0 < cn := by
    rcases Nat.eq_zero_or_pos cn with e | e
    · rw [e, Nat.mul_zero] at hN
      omega
    · exact e
  have h1 : j / cn < rn := by
    rw [Nat.div_lt_iff_lt_mul hc, ← hN]
    exact hj
  have h2 := Nat.mod_lt j hc
  unfold covR cy cx
  generalize j / cn = d at *
  generalize j % cn = m at *
  rw [if_pos (by dsimp only; omega)]
theorem tileP_cases {L : Lay} (hr : rightL L = true) (r : Rct) (_hm : r.rows ≤ 60 ∧ r.cols ≤ 100) : tileP L r = (([], []), 2) ∨ (tileP L r = (([], []), 442) ∧ r.cols < colsL L) ∨ (tileP L r = (([], []), 442) ∧ ¬ r.cols < colsL L ∧ r.rows < rowsL L) ∨ (tileP L r = (tileL L r, 0) ∧ (0 ≤ r.row ∧ r.row ≤ 9999) ∧ (0 ≤ r.col ∧ r.col ≤ 9999) ∧ colsL L ≤ r.cols ∧ rowsL L ≤ r.rows) := by
  unfold tileP
  rw [if_neg (by rw [hr]; decide)]
  by_cases h1 : r.row < 0 ∨ r.col < 0 ∨ 9999 < r.row ∨ 9999 < r.col ∨ 9999 < r.rows ∨ 9999 < r.cols
  · rw [if_pos h1]
    exact .inl rfl
  · rw [if_neg h1]
    by_cases h2 : r.cols < colsL L
    · rw [if_pos (.inl h2)]
      exact .inr (.inl ⟨rfl, h2⟩)
    · by_cases h3 : r.rows < rowsL L
      · rw [if_pos (.inr h3)]
        exact .inr (.inr (.inl ⟨rfl, h2, h3⟩))
      · rw [if_neg (fun h => h.elim h2 h3)]
        exact .inr (.inr (.inr ⟨rfl, by omega, by omega, by omega, by omega⟩))
theorem own_same {S : Nat → Prop} {w w' : World} {base n : Nat} {e : TypeId} {size : Nat} {v : Value} {xs : List Value} (h : w.ownsRow base e size v n xs) (g : Same S w w') (hS : ∀ b, base ≤ b → S b) : w'.ownsRow base e size v n xs := by
  obtain ⟨h0, h⟩ := h
  refine ⟨h0, ?_⟩
  rcases h with h | ⟨q, cap, cur, hv, hb, hk, h1, h2, h3, h4⟩
  · exact .inl h
  · exact .inr ⟨q, cap, cur, hv, hb, (g.block q (Array.getElem?_eq_some_iff.1 hk).1 (hS q hb)).trans hk, h1, h2, h3, h4⟩
theorem cnt_zero {w w' : World} {n : Nat} (h : w'.ownsRow w.heap.size 3 1 (.slice (some ⟨w.heap.size, 0, none⟩) n n) n (madeCells (Value.int .i64 0).cells (n * 1)).toList) (_hn : 1 ≤ n) : CntAt w' w.heap.size n (fun _ => 0) := by
  obtain ⟨h0, h⟩ := h
  rcases h with ⟨e, -⟩ | ⟨q, cap, cur, hv, hb, hk, h1, h2, h3, h4⟩
  · cases e
  · injection hv with e1 e2 e3
    injection e1 with e1
    injection e1 with e1
    subst e1 e3
    refine ⟨cur, hk, by omega, fun j hj => ?_⟩
    have hz : (madeCells (Value.int .i64 0).cells (n * 1)).toList[j]? = some (.int .i64 0) := by
      simp [madeCells, Value.cells, hj, Nat.mod_one]
    rw [← h4, List.getElem?_take_of_lt (by omega)] at hz
    simpa using hz
theorem add_lit {W0 w : World} {pr pc cb N : Nat} {row col : Int} {rn cn : Nat} {C : Nat → Int} (hrow : 0 ≤ row ∧ row ≤ 9999) (hcol : 0 ≤ col ∧ col ≤ 9999) (hrn : rn ≤ 60) (hcn : cn ≤ 100) (hN : N = rn * cn) (qr qc : Int) (R M : Nat) (jR jM : Int) (hjR : jR = R) (hjM : jM = M) (hR : 1 ≤ R) (hM : 1 ≤ M)
    (h1 : row ≤ qr) (h2 : qr + R ≤ row + rn) (h3 : col ≤ qc) (h4 : qc + M ≤ col + cn) (hpr : Blk w pr 27 #[.int .i64 row, .int .i64 col, .int .i64 rn, .int .i64 cn]) (hpc : Blk w pc 23 #[.slice (some ⟨cb, 0, none⟩) N N]) (hne : pr ≠ cb ∧ pc ≠ cb) (hcnt : CntAt w cb N C) (hC : ∀ j, j < N → 0 ≤ C j ∧ C j ≤ 1000) (hcb : W0.heap.size ≤ cb) (g : Grows W0 w) :
    Calls Try.prog 27 #[.agg #[.int .i64 qr, .int .i64 qc, .int .i64 jR, .int .i64 jM], .pointer (some ⟨pr, 0, none⟩), .pointer (some ⟨pc, 0, none⟩)] w (fun e w' => e = .returned (.bool true) ∧ CntAt w' cb N (fun j => C j + covR ⟨qr, qc, R, M⟩ (cy row cn j) (cx col cn j)) ∧ Grows W0 w' ∧ Same (fun b => b ≠ cb) w w') := by
  subst hjR hjM
  exact add_any hrow hcol hrn hcn hN qr qc R M hR hM h1 h2 h3 h4 hpr hpc hne hcnt hC hcb g
set_option maxRecDepth 100000 in
set_option maxHeartbeats 8000000 in
theorem covers_true (xs : List Edt) (row col rows cols : Int) (a : Option Addr) (n c : Nat) (w : World) (hn : xs.length = n) (hnc : n ≤ c) (hnm : n ≤ 9223372036854775807) (h : CellsAt 5 w (.slice a n c) n (edC xs)) : Calls Try.prog 6 #[.slice a n c, .agg #[.int .i64 row, .int .i64 col, .int .i64 rows, .int .i64 cols]] w (Ret (.bool true) w) := by
  have HGR := Lib.hid fun W (g : Grows w W) (hz : w.heap.size < W.heap.size) => grown_anyS (S := fun b => b ≠ w.heap.size) xs a n c W (fun b hb => by omega) hn hnc hnm (h.grows g)
  obtain ⟨L, hL⟩ : ∃ z, growF xs = z := ⟨_, rfl⟩
  have hr := right_grow xs
  rw [hL] at HGR hr
  have hok := (rightL_iff.1 hr).1
  have hpp := panes_pos L hok
  have hp16 := (rightL_iff.1 hr).2.1
  have hmb := min_bounds L hok
  obtain ⟨pl, hpl⟩ : ∃ z, panesL L = z := ⟨_, rfl⟩
  obtain ⟨pn, hpn⟩ : ∃ z, pl.length = z := ⟨_, rfl⟩
  rw [hpl, hpn] at hpp hp16
  have HPL := Lib.hid (And.intro hpl hpn)
  have HR := Lib.hid hr
  obtain ⟨mr, hmr⟩ : ∃ z, min rows 60 = z := ⟨_, rfl⟩
  obtain ⟨mc, hmc⟩ : ∃ z, min cols 100 = z := ⟨_, rfl⟩
  have r1 := min2_run rows 60
  have r2 := min2_run cols 100
  rw [hmr] at r1
  rw [hmc] at r2
  have hmm : mr ≤ 60 ∧ mc ≤ 100 := by omega
  have HTC := Lib.hid (tileP_cases hr ⟨row, col, mr, mc⟩ hmm)
  obtain ⟨C, hCe⟩ : ∃ z, colsL L = z := ⟨_, rfl⟩
  obtain ⟨R, hRe⟩ : ∃ z, rowsL L = z := ⟨_, rfl⟩
  have HMN := Lib.hid fun vk vw W (h : LayAt (fun b => b ≠ w.heap.size) W L vk vw) => minP_yes L hr vk vw W h
  rw [hCe, hRe] at HMN HTC hmb
  have HCR := Lib.hid (And.intro hCe hRe)
  dsimp only at HTC
  clear h hL hr hpl hpn hn hmr hmc hok hCe hRe
  go_enter Try.func6, Try.ntmps6
  go_upto_region 1 with fail
  refine abs_worldM (fun W => Grows w W ∧ Blk W w.heap.size 27 #[.int .i64 row, .int .i64 col, .int .i64 rows, .int .i64 cols]) ⟨(by repeat' (first | (with_reducible exact Grows.refl _) | (with_reducible refine Grows.alloc ?_ _) | (with_reducible refine Grows.drew ?_) | (with_reducible refine Grows.ext ?_ _ _))), Blk.new (by simp)⟩ ?_
  rintro W0 ⟨hg0, hb⟩
  have HG0 := Lib.hid hg0
  have HB := Lib.hid hb
  have hz0 := hb.lt
  have hT := Grows.refl W0
  clear hg0 hb
  go_upto_region 4 with (first | (go_at_call 9; (with_reducible refine (wakes_any _).mono ?_); rintro e wq ⟨rfl, hq⟩; have hT0 := hT; clear hT; have hT := hT0.trans (Grows.trans (by repeat' (first | (with_reducible exact Grows.refl _) | (with_reducible refine Grows.alloc ?_ _) | (with_reducible refine Grows.drew ?_) | (with_reducible refine Grows.ext ?_ _ _))) hq); clear hT0 hq; skip) | (go_at_call 26; (go_must (with_reducible refine (HGR.out _ ((HG0.out.trans hT).trans (by repeat' (first | (with_reducible exact Grows.refl _) | (with_reducible refine Grows.alloc ?_ _) | (with_reducible refine Grows.drew ?_) | (with_reducible refine Grows.ext ?_ _ _)))) (Nat.lt_of_lt_of_le hz0 (Nat.le_trans hT.size (Grows.size (by repeat' (first | (with_reducible exact Grows.refl _) | (with_reducible refine Grows.alloc ?_ _) | (with_reducible refine Grows.drew ?_) | (with_reducible refine Grows.ext ?_ _ _))))))).mono ?_)); rintro e wq hE; obtain ⟨ka, kc, wa, wc, rfl, hly, hq⟩ := hE.open_; have hT0 := hT; clear hT; have hT := hT0.trans (Grows.trans (by repeat' (first | (with_reducible exact Grows.refl _) | (with_reducible refine Grows.alloc ?_ _) | (with_reducible refine Grows.drew ?_) | (with_reducible refine Grows.ext ?_ _ _))) hq); clear hT0 hq hE))
  refine abs_worldM (fun W => Grows W0 W ∧ LyS (fun b => b ≠ w.heap.size) W wq.heap.size L ka kc wa wc) ⟨hT.trans (by repeat' (first | (with_reducible exact Grows.refl _) | (with_reducible refine Grows.alloc ?_ _) | (with_reducible refine Grows.drew ?_) | (with_reducible refine Grows.ext ?_ _ _))), hly.grows (by repeat' (first | (with_reducible exact Grows.refl _) | (with_reducible refine Grows.alloc ?_ _) | (with_reducible refine Grows.drew ?_) | (with_reducible refine Grows.ext ?_ _ _))), Blk.new (by simp)⟩ ?_
  have hp1 : w.heap.size < wq.heap.size := Nat.lt_of_lt_of_le hz0 hT.size
  clear hT hly
  generalize wq.heap.size = p1 at *
  rintro W1 ⟨hg1, hf⟩
  have HF := Lib.hid hf
  have HG1 := Lib.hid hg1
  obtain ⟨b0, b1, b2, b3⟩ := (HB.out.grows hg1).four
  obtain ⟨f0, f1, f2, f3⟩ := (HB.out.grows hg1).four'
  have hlb := (HB.out.grows hg1).lt
  clear hg1 hf
  go_upto_region 5 with fail
  refine abs_worldM (fun W => Grows w W ∧ LyS (fun b => b ≠ w.heap.size) W p1 L ka kc wa wc ∧ Blk W w.heap.size 27 #[.int .i64 row, .int .i64 col, .int .i64 mr, .int .i64 mc]) ⟨((HG0.out.trans HG1.out).setCell (Nat.le_refl _) _).setCell (Nat.le_refl _) _, (HF.out.same (same_set (fun h => Ne.irrefl h)) (by omega)).same (same_set (fun h => Ne.irrefl h)) (by omega), ((HB.out.grows HG1.out).set 2 _).set 3 _⟩ ?_
  clear b0 b1 b2 b3 f0 f1 f2 f3 hlb HF HG1 HG0 HB hz0 r1 r2
  rintro W2 ⟨hg, hf, hb⟩
  have HT := Lib.hid hg
  have HF := Lib.hid hf
  have HB := Lib.hid hb
  obtain ⟨a0, a1, a2, a3⟩ := hf.b.four
  obtain ⟨b0, b1, b2, b3⟩ := hb.four
  have hla := hf.b.lt
  have hlb := hb.lt
  clear hg hf hb
  have hU := Grows.refl W2
  have HTL := Lib.hid fun W (g : Grows W2 W) => tileP_any L row col mr mc _ _ W (HF.out.l.grows g)
  rcases HTC.out with ht | ⟨ht, h1⟩ | ⟨ht, h1, h2⟩ | ⟨ht, h1, h2, h3, h4⟩
  · rw [ht] at HTL
    clear ht HTC
    go_wp2_with (first | (go_at_call 10; (go_must (with_reducible refine (HTL.out _ (hU.trans (by repeat' (first | (with_reducible exact Grows.refl _) | (with_reducible refine Grows.alloc ?_ _) | (with_reducible refine Grows.drew ?_) | (with_reducible refine Grows.ext ?_ _ _))))).mono ?_)); rintro e wq ⟨v1, v2, rfl, hv1, hv2, hq⟩; have hU0 := hU; clear hU; have hU := hU0.trans (Grows.trans (by repeat' (first | (with_reducible exact Grows.refl _) | (with_reducible refine Grows.alloc ?_ _) | (with_reducible refine Grows.drew ?_) | (with_reducible refine Grows.ext ?_ _ _))) hq); clear hU0 hq; obtain ⟨a0, a1, a2, a3⟩ := (HF.out.b.grows hU).four; obtain ⟨b0, b1, b2, b3⟩ := (HB.out.grows hU).four; have hla := (HF.out.b.grows hU).lt; have hlb := (HB.out.grows hU).lt; obtain ⟨ta, tc, rfl, -⟩ := cells_open hv1; obtain ⟨ua, uc, rfl, -⟩ := cells_open hv2) | (go_at_call 19; (go_must (with_reducible refine (HMN.out _ _ _ (HF.out.l.grows (hU.trans (by repeat' (first | (with_reducible exact Grows.refl _) | (with_reducible refine Grows.alloc ?_ _) | (with_reducible refine Grows.drew ?_) | (with_reducible refine Grows.ext ?_ _ _)))))).mono ?_)); rintro e wq ⟨rfl, hq⟩; have hU0 := hU; clear hU; have hU := hU0.trans (Grows.trans (by repeat' (first | (with_reducible exact Grows.refl _) | (with_reducible refine Grows.alloc ?_ _) | (with_reducible refine Grows.drew ?_) | (with_reducible refine Grows.ext ?_ _ _))) hq); clear hU0 hq; obtain ⟨a0, a1, a2, a3⟩ := (HF.out.b.grows hU).four; obtain ⟨b0, b1, b2, b3⟩ := (HB.out.grows hU).four; have hla := (HF.out.b.grows hU).lt; have hlb := (HB.out.grows hU).lt))
    go_returns
    exact ⟨rfl, HT.out.trans (hU.trans (by repeat' (first | (with_reducible exact Grows.refl _) | (with_reducible refine Grows.alloc ?_ _) | (with_reducible refine Grows.drew ?_) | (with_reducible refine Grows.ext ?_ _ _))))⟩
  · rw [ht] at HTL
    clear ht HTC
    go_wp2_with (first | (go_at_call 10; (go_must (with_reducible refine (HTL.out _ (hU.trans (by repeat' (first | (with_reducible exact Grows.refl _) | (with_reducible refine Grows.alloc ?_ _) | (with_reducible refine Grows.drew ?_) | (with_reducible refine Grows.ext ?_ _ _))))).mono ?_)); rintro e wq ⟨v1, v2, rfl, hv1, hv2, hq⟩; have hU0 := hU; clear hU; have hU := hU0.trans (Grows.trans (by repeat' (first | (with_reducible exact Grows.refl _) | (with_reducible refine Grows.alloc ?_ _) | (with_reducible refine Grows.drew ?_) | (with_reducible refine Grows.ext ?_ _ _))) hq); clear hU0 hq; obtain ⟨a0, a1, a2, a3⟩ := (HF.out.b.grows hU).four; obtain ⟨b0, b1, b2, b3⟩ := (HB.out.grows hU).four; have hla := (HF.out.b.grows hU).lt; have hlb := (HB.out.grows hU).lt; obtain ⟨ta, tc, rfl, -⟩ := cells_open hv1; obtain ⟨ua, uc, rfl, -⟩ := cells_open hv2) | (go_at_call 19; (go_must (with_reducible refine (HMN.out _ _ _ (HF.out.l.grows (hU.trans (by repeat' (first | (with_reducible exact Grows.refl _) | (with_reducible refine Grows.alloc ?_ _) | (with_reducible refine Grows.drew ?_) | (with_reducible refine Grows.ext ?_ _ _)))))).mono ?_)); rintro e wq ⟨rfl, hq⟩; have hU0 := hU; clear hU; have hU := hU0.trans (Grows.trans (by repeat' (first | (with_reducible exact Grows.refl _) | (with_reducible refine Grows.alloc ?_ _) | (with_reducible refine Grows.drew ?_) | (with_reducible refine Grows.ext ?_ _ _))) hq); clear hU0 hq; obtain ⟨a0, a1, a2, a3⟩ := (HF.out.b.grows hU).four; obtain ⟨b0, b1, b2, b3⟩ := (HB.out.grows hU).four; have hla := (HF.out.b.grows hU).lt; have hlb := (HB.out.grows hU).lt))
    go_returns
    exact ⟨rfl, HT.out.trans (hU.trans (by repeat' (first | (with_reducible exact Grows.refl _) | (with_reducible refine Grows.alloc ?_ _) | (with_reducible refine Grows.drew ?_) | (with_reducible refine Grows.ext ?_ _ _))))⟩
  · rw [ht] at HTL
    clear ht HTC
    go_wp2_with (first | (go_at_call 10; (go_must (with_reducible refine (HTL.out _ (hU.trans (by repeat' (first | (with_reducible exact Grows.refl _) | (with_reducible refine Grows.alloc ?_ _) | (with_reducible refine Grows.drew ?_) | (with_reducible refine Grows.ext ?_ _ _))))).mono ?_)); rintro e wq ⟨v1, v2, rfl, hv1, hv2, hq⟩; have hU0 := hU; clear hU; have hU := hU0.trans (Grows.trans (by repeat' (first | (with_reducible exact Grows.refl _) | (with_reducible refine Grows.alloc ?_ _) | (with_reducible refine Grows.drew ?_) | (with_reducible refine Grows.ext ?_ _ _))) hq); clear hU0 hq; obtain ⟨a0, a1, a2, a3⟩ := (HF.out.b.grows hU).four; obtain ⟨b0, b1, b2, b3⟩ := (HB.out.grows hU).four; have hla := (HF.out.b.grows hU).lt; have hlb := (HB.out.grows hU).lt; obtain ⟨ta, tc, rfl, -⟩ := cells_open hv1; obtain ⟨ua, uc, rfl, -⟩ := cells_open hv2) | (go_at_call 19; (go_must (with_reducible refine (HMN.out _ _ _ (HF.out.l.grows (hU.trans (by repeat' (first | (with_reducible exact Grows.refl _) | (with_reducible refine Grows.alloc ?_ _) | (with_reducible refine Grows.drew ?_) | (with_reducible refine Grows.ext ?_ _ _)))))).mono ?_)); rintro e wq ⟨rfl, hq⟩; have hU0 := hU; clear hU; have hU := hU0.trans (Grows.trans (by repeat' (first | (with_reducible exact Grows.refl _) | (with_reducible refine Grows.alloc ?_ _) | (with_reducible refine Grows.drew ?_) | (with_reducible refine Grows.ext ?_ _ _))) hq); clear hU0 hq; obtain ⟨a0, a1, a2, a3⟩ := (HF.out.b.grows hU).four; obtain ⟨b0, b1, b2, b3⟩ := (HB.out.grows hU).four; have hla := (HF.out.b.grows hU).lt; have hlb := (HB.out.grows hU).lt))
    go_returns
    exact ⟨rfl, HT.out.trans (hU.trans (by repeat' (first | (with_reducible exact Grows.refl _) | (with_reducible refine Grows.alloc ?_ _) | (with_reducible refine Grows.drew ?_) | (with_reducible refine Grows.ext ?_ _ _))))⟩
  · obtain ⟨rn, rfl⟩ : ∃ z : Nat, mr = z := ⟨mr.toNat, by omega⟩
    obtain ⟨cn, rfl⟩ : ∃ z : Nat, mc = z := ⟨mc.toNat, by omega⟩
    have hok := (rightL_iff.1 HR.out).1
    have hfit : fitsR L ⟨row, col, rn, cn⟩ := ⟨by rw [HCR.out.1]; exact h3, by rw [HCR.out.2]; exact h4⟩
    obtain ⟨hin, hinu⟩ := tile_inside L hok ⟨row, col, rn, cn⟩ hfit
    have hpan := tile_panes L hok ⟨row, col, rn, cn⟩
    obtain ⟨hcn1, hcn2⟩ := tile_count L hok ⟨row, col, rn, cn⟩
    have hcov := cover L hok ⟨row, col, rn, cn⟩ hfit
    rw [HPL.out.1] at hpan hcn1 hcn2
    rw [HPL.out.2] at hcn1 hcn2
    obtain ⟨⟨ts, us⟩, hq⟩ : ∃ q, tileL L ⟨row, col, rn, cn⟩ = q := ⟨_, rfl⟩
    rw [hq] at ht hin hinu hpan hcn1 hcn2 hcov
    dsimp only at hin hinu hpan hcn1 hcn2 hcov
    rw [ht] at HTL
    try dsimp only at HTL
    have HIN := Lib.hid hin
    have HINU := Lib.hid hinu
    have HPAN := Lib.hid hpan
    have HCOV := Lib.hid hcov
    obtain ⟨N, hN⟩ : ∃ z, rn * cn = z := ⟨_, rfl⟩
    have hNe : (rn : Int) * (cn : Int) = (N : Int) := by rw [← hN]; norm_cast
    have hN1 : 1 ≤ N := by rw [← hN]; exact Nat.mul_pos (by omega) (by omega)
    have hN2 : N ≤ 6000 := by rw [← hN]; exact Nat.mul_le_mul (show rn ≤ 60 by omega) (show cn ≤ 100 by omega)
    have HN := Lib.hid hN
    obtain ⟨nt, hnt⟩ : ∃ z, ts.length = z := ⟨_, rfl⟩
    obtain ⟨nu, hnu⟩ : ∃ z, us.length = z := ⟨_, rfl⟩
    rw [hnt] at hcn1
    subst hcn1
    rw [hnu] at hcn2
    have HNT := Lib.hid (And.intro hnt hnu)
    obtain ⟨i3, hi3, hz3, hs3, hb3⟩ := info_parts info3
    clear ht HTC hok hfit hin hinu hpan hcov hq hN hnt hnu
    go_upto_region 11 with (first | (go_at_call 10; (go_must (with_reducible refine (HTL.out _ (hU.trans (by repeat' (first | (with_reducible exact Grows.refl _) | (with_reducible refine Grows.alloc ?_ _) | (with_reducible refine Grows.drew ?_) | (with_reducible refine Grows.ext ?_ _ _))))).mono ?_)); rintro e wq ⟨v1, v2, rfl, hv1, hv2, hq⟩; have hU0 := hU; clear hU; have hU := hU0.trans (Grows.trans (by repeat' (first | (with_reducible exact Grows.refl _) | (with_reducible refine Grows.alloc ?_ _) | (with_reducible refine Grows.drew ?_) | (with_reducible refine Grows.ext ?_ _ _))) hq); clear hU0 hq; obtain ⟨a0, a1, a2, a3⟩ := (HF.out.b.grows hU).four; obtain ⟨b0, b1, b2, b3⟩ := (HB.out.grows hU).four; have hla := (HF.out.b.grows hU).lt; have hlb := (HB.out.grows hU).lt; have hv1 : CellsAt 5 wq v1 nt (tilC ts) := HNT.out.1 ▸ hv1; have hv2 : CellsAt 5 wq v2 nu (rulC us) := HNT.out.2 ▸ hv2; obtain ⟨ta, tc, rfl, -⟩ := cells_open hv1; obtain ⟨ua, uc, rfl, -⟩ := cells_open hv2; have hV := Grows.refl wq) | (go_at_call 19; (go_must (with_reducible refine (HMN.out _ _ _ (HF.out.l.grows (hU.trans (by repeat' (first | (with_reducible exact Grows.refl _) | (with_reducible refine Grows.alloc ?_ _) | (with_reducible refine Grows.drew ?_) | (with_reducible refine Grows.ext ?_ _ _)))))).mono ?_)); rintro e wq ⟨rfl, hq⟩; have hq9 := Grows.trans (by repeat' (first | (with_reducible exact Grows.refl _) | (with_reducible refine Grows.alloc ?_ _) | (with_reducible refine Grows.drew ?_) | (with_reducible refine Grows.ext ?_ _ _))) hq; have hU0 := hU; clear hU; have hU := hU0.trans (Grows.trans (by repeat' (first | (with_reducible exact Grows.refl _) | (with_reducible refine Grows.alloc ?_ _) | (with_reducible refine Grows.drew ?_) | (with_reducible refine Grows.ext ?_ _ _))) hq); clear hU0 hq; obtain ⟨a0, a1, a2, a3⟩ := (HF.out.b.grows hU).four; obtain ⟨b0, b1, b2, b3⟩ := (HB.out.grows hU).four; have hla := (HF.out.b.grows hU).lt; have hlb := (HB.out.grows hU).lt; have hV0 := hV; clear hV; have hV := hV0.trans hq9; clear hV0 hq9))
    refine abs_worldM (fun W => Grows W2 W ∧ CellsAt 5 W (.slice ta nt tc) nt (tilC ts) ∧ CellsAt 5 W (.slice ua nu uc) nu (rulC us)) ⟨hU.trans (by repeat' (first | (with_reducible exact Grows.refl _) | (with_reducible refine Grows.alloc ?_ _) | (with_reducible refine Grows.drew ?_) | (with_reducible refine Grows.ext ?_ _ _))), hv1.grows (hV.trans (by repeat' (first | (with_reducible exact Grows.refl _) | (with_reducible refine Grows.alloc ?_ _) | (with_reducible refine Grows.drew ?_) | (with_reducible refine Grows.ext ?_ _ _)))), hv2.grows (hV.trans (by repeat' (first | (with_reducible exact Grows.refl _) | (with_reducible refine Grows.alloc ?_ _) | (with_reducible refine Grows.drew ?_) | (with_reducible refine Grows.ext ?_ _ _))))⟩ ?_
    clear hU hV hv1 hv2 a0 a1 a2 a3 b0 b1 b2 b3 hla hlb
    rintro WB ⟨hgB, hts, hus⟩
    have HTS := Lib.hid hts
    have HUS := Lib.hid hus
    have HFB := Lib.hid (HF.out.next hgB)
    have HBB := Lib.hid (HB.out.grows hgB)
    have HTB := Lib.hid (HT.out.trans hgB)
    obtain ⟨b0, b1, b2, b3⟩ := HBB.out.four
    have hlb := HBB.out.lt
    have hlp1 := HFB.out.b.lt
    have hwB := HTB.out.size
    clear hgB hts hus HT HF HB
    go_upto_region 12 with (at_make; (go_must (refine wpList_make_full _ rfl (.tmp 70) (.tmp 70) 23 rfl WB.heap.size 3 i3 (.int .i64 0) 1 Try.underlying23 hi3 hz3 hs3 .i64 .i64 _ _ N rfl rfl (by first | rfl | exact hNe) (by first | rfl | exact hNe) (by rw [hb3]; omega) (by unfold maxLen; omega) (Nat.le_refl _) ?_)); intro w1 hown hgrow; have hcz := cnt_zero hown hN1; have hgm : Grows WB w1 := appended_grows (Grows.refl WB) hgrow (fun k e => by cases e))
    refine abs_worldM (fun W => Grows WB W ∧ CntAt W WB.heap.size N (fun _ => 0) ∧ Blk W w1.heap.size 23 #[.slice (some ⟨WB.heap.size, 0, none⟩) N N]) ⟨hgm.trans (by repeat' (first | (with_reducible exact Grows.refl _) | (with_reducible refine Grows.alloc ?_ _) | (with_reducible refine Grows.drew ?_) | (with_reducible refine Grows.ext ?_ _ _))), hcz.same (by repeat' (first | (with_reducible exact Grows.refl _) | (with_reducible refine Grows.alloc ?_ _) | (with_reducible refine Grows.drew ?_) | (with_reducible refine Grows.ext ?_ _ _))), Blk.new (by simp)⟩ ?_
    have hpcl : WB.heap.size < w1.heap.size := hcz.lt
    clear hcz hgm hown hgrow
    generalize w1.heap.size = pc at *
    rintro WC ⟨hgC, hct, hpcb⟩
    obtain ⟨cb, hcb⟩ : ∃ z, WB.heap.size = z := ⟨_, rfl⟩
    rw [hcb] at hct hpcb hpcl hlb hlp1 hwB ⊢
    have HGC := Lib.hid hgC
    have HCT := Lib.hid hct
    have HPC := Lib.hid hpcb
    have hlc := hpcb.lt
    have HCB := Lib.hid hcb
    clear hgC hct hpcb hcb
    go_upto_block 0 with fail
    refine abs_worldM (fun W => Grows WC W) (by repeat' (first | (with_reducible exact Grows.refl _) | (with_reducible refine Grows.alloc ?_ _) | (with_reducible refine Grows.drew ?_) | (with_reducible refine Grows.ext ?_ _ _))) ?_
    rintro WD hgD
    have HD := Lib.hid hgD
    have hsD := hgD.size
    clear hgD b0 b1 b2 b3
    go_wp2_with fail
    go_loopw [14, 75] (fun v14 i wr => ∃ (m : Nat) (wv : World), wv = wr ∧ m ≤ nt ∧ i = .int .i64 m ∧ CntAt wv cb N (fun j => (covs (rectsT (ts.take m)) (cy row cn j) (cx col cn j) : Int)) ∧ wv.ownsRow WC.heap.size 3 1 v14 m (intC ((ts.take m).map Til.pane)) ∧ Grows w wv ∧ Same (fun b => b < cb) WB wv ∧ Blk wv pc 23 #[.slice (some ⟨cb, 0, none⟩) N N] ∧ WC.heap.size ≤ wv.heap.size) (fun _ i _ => nt - (intOf i).toNat)
    case atStart => exact ⟨0, _, rfl, Nat.zero_le _, rfl, (HCT.out.same HD.out).of (fun j _ => by rfl), World.ownsRow_nil _ _ _ _, (HTB.out.trans HGC.out).trans HD.out, Grows.same (HGC.out.trans HD.out) _, HPC.out.grows HD.out, hsD⟩
    case round =>
      obtain ⟨m, wv, rfl, hm, rfl, hct, hro, hg, hsm, hpb, hsz⟩ := hrel
      have H1 := Lib.hid hct
      have H2 := Lib.hid hro
      have H3 := Lib.hid hg
      have H4 := Lib.hid hsm
      have H5 := Lib.hid hpb
      by_cases hlt : m < nt
      · obtain ⟨b, off, q, rfl, hb, hq, d0, d1, d2, d3, d4⟩ := tile_at HTS.out HNT.out.1 hlt
        rw [HCB.out] at hb
        have e0 := (hsm.cell (i := off + m * 5) (by rw [HCB.out]; exact hb) hb).trans d0
        have e1 := (hsm.cell (i := off + m * 5 + 1) (by rw [HCB.out]; exact hb) hb).trans d1
        have e2 := (hsm.cell (i := off + m * 5 + 2) (by rw [HCB.out]; exact hb) hb).trans d2
        have e3 := (hsm.cell (i := off + m * 5 + 3) (by rw [HCB.out]; exact hb) hb).trans d3
        have e4 := (hsm.cell (i := off + m * 5 + 4) (by rw [HCB.out]; exact hb) hb).trans d4
        have hbl : b < wv.heap.size := by have := hsm.size; rw [HCB.out] at this; omega
        obtain ⟨⟨i1, i2, i3', i4⟩, i5, i6⟩ := HIN.out q (List.mem_of_getElem? hq)
        obtain ⟨qp, ⟨qr, qc, qR, qM⟩⟩ := q
        dsimp only at i1 i2 i3' i4 i5 i6 e0 e1 e2 e3 e4
        obtain ⟨R', rfl⟩ : ∃ z : Nat, qR = z := ⟨qR.toNat, by omega⟩
        obtain ⟨M', rfl⟩ : ∃ z : Nat, qM = z := ⟨qM.toNat, by omega⟩
        have HQ := Lib.hid hq
        have hlc2 := hpb.lt
        have hcl := hct.lt
        clear hct hro hg hsm hpb hq d0 d1 d2 d3 d4 hb
        have HTK := Lib.hid (show (ts.take (m + 1)).map Til.pane = (ts.take m).map Til.pane ++ [qp] by rw [take_snoc HQ.out, List.map_append]; rfl)
        have HCV := Lib.hid fun (j : Nat) => (show (covs (rectsT (ts.take (m + 1))) (cy row cn j) (cx col cn j) : Int) = (covs (rectsT (ts.take m)) (cy row cn j) (cx col cn j) : Int) + covR ⟨qr, qc, R', M'⟩ (cy row cn j) (cx col cn j) by rw [rectsT_take HQ.out, covs_snoc]; norm_cast)
        have HCO := Lib.hid (covs_small (rectsT (ts.take m)) (show (rectsT (ts.take m)).length ≤ 1000 by rw [rectsT, List.length_map, List.length_take]; omega))
        go_upto_region 17 with fail
        refine abs_worldM (fun W => Grows wv W ∧ Blk W wv.heap.size 41 #[.int .i64 qp, .int .i64 qr, .int .i64 qc, .int .i64 R', .int .i64 M']) ⟨(by repeat' (first | (with_reducible exact Grows.refl _) | (with_reducible refine Grows.alloc ?_ _) | (with_reducible refine Grows.drew ?_) | (with_reducible refine Grows.ext ?_ _ _))), Blk.new (by simp)⟩ ?_
        obtain ⟨p16, hp16e⟩ : ∃ z, wv.heap.size = z := ⟨_, rfl⟩
        rw [hp16e]
        rintro W3 ⟨hg3, hb16⟩
        have H6 := Lib.hid hg3
        have H7 := Lib.hid hb16
        obtain ⟨g0, g1, g2, g3, g4⟩ := hb16.five
        have hl16 := hb16.lt
        have hs3' := hg3.size
        have hcb16 : p16 ≠ cb := by omega
        clear hg3 hb16 e0 e1 e2 e3 e4 hbl
        go_upto_region 19 with (go_at_call 27; (go_must (with_reducible refine (add_any (W0 := w) (C := fun j => (covs (rectsT (ts.take m)) (cy row cn j) (cx col cn j) : Int)) h1 h2 (by omega) (by omega) HN.out.symm qr qc R' M' (by omega) (by omega) (by omega) (by omega) (by omega) (by omega) (((HBB.out.same H4.out hlb).grows H6.out).grows (by repeat' (first | (with_reducible exact Grows.refl _) | (with_reducible refine Grows.alloc ?_ _) | (with_reducible refine Grows.drew ?_) | (with_reducible refine Grows.ext ?_ _ _)))) ((H5.out.grows H6.out).grows (by repeat' (first | (with_reducible exact Grows.refl _) | (with_reducible refine Grows.alloc ?_ _) | (with_reducible refine Grows.drew ?_) | (with_reducible refine Grows.ext ?_ _ _)))) ⟨by omega, by omega⟩ ((H1.out.same H6.out).same (by repeat' (first | (with_reducible exact Grows.refl _) | (with_reducible refine Grows.alloc ?_ _) | (with_reducible refine Grows.drew ?_) | (with_reducible refine Grows.ext ?_ _ _)))) (fun j _ => HCO.out _ _) (by omega) ((H3.out.trans H6.out).trans (by repeat' (first | (with_reducible exact Grows.refl _) | (with_reducible refine Grows.alloc ?_ _) | (with_reducible refine Grows.drew ?_) | (with_reducible refine Grows.ext ?_ _ _))))).mono ?_)); rintro e w4 ⟨rfl, hct4, hg4, hs4⟩; obtain ⟨g0, g1, g2, g3, g4⟩ := ((H7.out.grows (by repeat' (first | (with_reducible exact Grows.refl _) | (with_reducible refine Grows.alloc ?_ _) | (with_reducible refine Grows.drew ?_) | (with_reducible refine Grows.ext ?_ _ _)))).same hs4 hcb16).five; have hl16 := ((H7.out.grows (by repeat' (first | (with_reducible exact Grows.refl _) | (with_reducible refine Grows.alloc ?_ _) | (with_reducible refine Grows.drew ?_) | (with_reducible refine Grows.ext ?_ _ _)))).same hs4 hcb16).lt)
        have hro4 := own_same (ownsRow_grows H2.out (H6.out.trans (by repeat' (first | (with_reducible exact Grows.refl _) | (with_reducible refine Grows.alloc ?_ _) | (with_reducible refine Grows.drew ?_) | (with_reducible refine Grows.ext ?_ _ _))))) hs4 (fun b hb => by omega)
        have HRO4 := Lib.hid hro4
        have HCT4 := Lib.hid hct4
        have HG4 := Lib.hid hg4
        have HS4 := Lib.hid (((H4.out.trans (Grows.same (H6.out.trans (by repeat' (first | (with_reducible exact Grows.refl _) | (with_reducible refine Grows.alloc ?_ _) | (with_reducible refine Grows.drew ?_) | (with_reducible refine Grows.ext ?_ _ _)))) _))).trans (hs4.mono' fun b (hb : b < cb) => by omega))
        have HP4 := Lib.hid (((H5.out.grows H6.out).grows (by repeat' (first | (with_reducible exact Grows.refl _) | (with_reducible refine Grows.alloc ?_ _) | (with_reducible refine Grows.drew ?_) | (with_reducible refine Grows.ext ?_ _ _)))).same hs4 (by omega))
        have hz4 := hs4.size
        have hpl4 := HP4.out.lt
        clear hro4 hct4 hg4 hs4
        go_wp2_with (at_builtin; (go_must (refine wpList_appO _ rfl (.tmp 90) (.tmp 93) 23 rfl WC.heap.size 3 i3 _ 1 8 Try.underlying23 hi3 hz3 hs3 hb3 rfl (by decide) m 1 (intC ((ts.take m).map Til.pane)) (intC [qp]) (ownsRow_grows HRO4.out (by repeat' (first | (with_reducible exact Grows.refl _) | (with_reducible refine Grows.alloc ?_ _) | (with_reducible refine Grows.drew ?_) | (with_reducible refine Grows.ext ?_ _ _)))) (cells_int1 rfl) (intC_one _) (by unfold maxLen; omega) (by omega) (by simp; omega) ?_)); (go_must (intro v9 w9 row9 q1 q2 q3 q4; have hne9 : ∀ k, k < WC.heap.size → row9 ≠ some k := (fun k hk e => by have := (q3 k e).1; omega); have hct9 := ((HCT4.out.same (by repeat' (first | (with_reducible exact Grows.refl _) | (with_reducible refine Grows.alloc ?_ _) | (with_reducible refine Grows.drew ?_) | (with_reducible refine Grows.ext ?_ _ _)))).kept q2 (hne9 _ (by omega))).of (fun j _ => (HCV.out j)); have hro9 : w9.ownsRow WC.heap.size 3 1 v9 (m + 1) (intC ((ts.take (m + 1)).map Til.pane)) := (by rw [HTK.out, ← intC_append]; exact q1); have hg9 : Grows w w9 := appended_grows (HG4.out.trans (by repeat' (first | (with_reducible exact Grows.refl _) | (with_reducible refine Grows.alloc ?_ _) | (with_reducible refine Grows.drew ?_) | (with_reducible refine Grows.ext ?_ _ _)))) q2 (fun k e => by have := (q3 k e).1; omega); have hs9 : Same (fun b => b < cb) WB w9 := (HS4.out.trans (Grows.same (by repeat' (first | (with_reducible exact Grows.refl _) | (with_reducible refine Grows.alloc ?_ _) | (with_reducible refine Grows.drew ?_) | (with_reducible refine Grows.ext ?_ _ _))) _)).trans (same_grown q2 (fun k e hk => by have := (q3 k e).1; omega)); have hp9 := (HP4.out.grows (by repeat' (first | (with_reducible exact Grows.refl _) | (with_reducible refine Grows.alloc ?_ _) | (with_reducible refine Grows.drew ?_) | (with_reducible refine Grows.ext ?_ _ _)))).kept q2 (hne9 _ (by omega)); have hz9 : WC.heap.size ≤ w9.heap.size := Nat.le_trans (Nat.le_trans (show WC.heap.size ≤ w4.heap.size by omega) (Grows.size (w := w4) ((Grows.refl _).alloc _))) q2.size)))
        go_roundw
        case rel => exact ⟨m + 1, _, rfl, by omega, by go_num, hct9, hro9, hg9, hs9, hp9, hz9⟩
        case measure => simp [intOf]; omega
      · have e : m = nt := by omega
        subst e
        have etk : ts.take m = ts := List.take_of_length_le (by rw [HNT.out.1]; omega)
        rw [etk] at hct hro
        rw [HPAN.out] at hro
        obtain ⟨va, vc, rfl⟩ : ∃ a c, u14 = .slice a m c := by
          obtain ⟨-, a', c', e, -⟩ := ownsRow_cells hro
          exact ⟨a', c', e⟩
        have HVP := Lib.hid (ints_of_cells (S := AnyB) (show pl.length = m from HPL.out.2) (ownsRow_cells hro) (fun _ _ _ => trivial) (by rw [HPL.out.2]; omega))
        have HOR := Lib.hid hro
        have HE1 := Lib.hid hct
        have HE3 := Lib.hid hg
        have HE4 := Lib.hid hsm
        have HE5 := Lib.hid hpb
        clear hct hro hg hsm hpb H1 H2 H3 H4 H5 etk
        go_upto_block 2 with fail
        refine abs_worldM (fun W => Grows wv W) (by repeat' (first | (with_reducible exact Grows.refl _) | (with_reducible refine Grows.alloc ?_ _) | (with_reducible refine Grows.drew ?_) | (with_reducible refine Grows.ext ?_ _ _))) ?_
        rintro WE hgE
        have HE6 := Lib.hid hgE
        have hsE := hgE.size
        clear hgE
        go_wp2_with fail
        go_loopw [98] (fun i wr => ∃ (m' : Nat) (wx : World), wx = wr ∧ m' ≤ nu ∧ i = .int .i64 m' ∧ CntAt wx cb N (fun j => (covs (rectsT ts) (cy row cn j) (cx col cn j) : Int) + (covs (rectsU (us.take m')) (cy row cn j) (cx col cn j) : Int)) ∧ Grows w wx ∧ Same (fun b => b ≠ cb) WE wx) (fun i _ => nu - (intOf i).toNat)
        case atStart => exact ⟨0, _, rfl, Nat.zero_le _, rfl, (HE1.out.same HE6.out).of (fun j _ => by simp [rectsU, covs_nil]), HE3.out.trans HE6.out, Same.refl _ _⟩
        case round =>
          obtain ⟨k, wx, rfl, hk, rfl, hct, hg, hsm⟩ := hrel
          have H1 := Lib.hid hct
          have H3 := Lib.hid hg
          have H4 := Lib.hid hsm
          have HSB := Lib.hid ((HE4.out.trans (Grows.same HE6.out _)).trans (hsm.mono' fun b (hb : b < cb) => by omega) : Same (fun b => b < cb) WB wx)
          have hpcx := ((HE5.out.grows HE6.out).same hsm (show pc ≠ cb by omega)).lt
          by_cases hlt : k < nu
          · obtain ⟨b, off, q, rfl, hb, hq, d0, d1, d2, d3, d4⟩ := rule_at HUS.out HNT.out.2 hlt
            rw [HCB.out] at hb
            have e0 := (HSB.out.cell (i := off + k * 5) (by rw [HCB.out]; exact hb) hb).trans d0
            have e1 := (HSB.out.cell (i := off + k * 5 + 1) (by rw [HCB.out]; exact hb) hb).trans d1
            have e2 := (HSB.out.cell (i := off + k * 5 + 2) (by rw [HCB.out]; exact hb) hb).trans d2
            have e3 := (HSB.out.cell (i := off + k * 5 + 3) (by rw [HCB.out]; exact hb) hb).trans d3
            have e4 := (HSB.out.cell (i := off + k * 5 + 4) (by rw [HCB.out]; exact hb) hb).trans d4
            have hbl : b < wx.heap.size := by omega
            obtain ⟨⟨i1, i2, i3', i4⟩, i5, i6, i7, i8⟩ := HINU.out q (List.mem_of_getElem? hq)
            obtain ⟨⟨qr, qc, qR, qM⟩, qv⟩ := q
            dsimp only at i1 i2 i3' i4 i5 i6 i7 i8 e0 e1 e2 e3 e4
            obtain ⟨R', rfl⟩ : ∃ z : Nat, qR = z := ⟨qR.toNat, by omega⟩
            obtain ⟨M', rfl⟩ : ∃ z : Nat, qM = z := ⟨qM.toNat, by omega⟩
            have HCV := Lib.hid fun (j : Nat) => (show (covs (rectsT ts) (cy row cn j) (cx col cn j) : Int) + (covs (rectsU (us.take (k + 1))) (cy row cn j) (cx col cn j) : Int) = (covs (rectsT ts) (cy row cn j) (cx col cn j) : Int) + (covs (rectsU (us.take k)) (cy row cn j) (cx col cn j) : Int) + covR ⟨qr, qc, R', M'⟩ (cy row cn j) (cx col cn j) by rw [rectsU_take hq, covs_snoc, Int.natCast_add]; exact (Int.add_assoc _ _ _).symm)
            have HCO := Lib.hid fun y x => And.intro (covs_small2 (rectsT ts) (show (rectsT ts).length ≤ 500 by rw [rectsT, List.length_map, HNT.out.1]; omega) y x) (covs_small2 (rectsU (us.take k)) (show (rectsU (us.take k)).length ≤ 500 by rw [rectsU, List.length_map, List.length_take]; omega) y x)
            clear hct hg hsm hq d0 d1 d2 d3 d4 hb
            go_upto_region 24 with fail
            refine abs_worldM (fun W => Grows wx W ∧ Blk W wx.heap.size 44 #[.int .i64 qr, .int .i64 qc, .int .i64 R', .int .i64 M', .bool qv]) ⟨(by repeat' (first | (with_reducible exact Grows.refl _) | (with_reducible refine Grows.alloc ?_ _) | (with_reducible refine Grows.drew ?_) | (with_reducible refine Grows.ext ?_ _ _))), Blk.new (by simp)⟩ ?_
            obtain ⟨p18, hp18e⟩ : ∃ z, wx.heap.size = z := ⟨_, rfl⟩
            rw [hp18e]
            rintro W3 ⟨hg3, hb18⟩
            have H6 := Lib.hid hg3
            have H7 := Lib.hid hb18
            obtain ⟨g0, g1, g2, g3, g4⟩ := hb18.five
            have hl18 := hb18.lt
            have hcb18 : p18 ≠ cb := by omega
            clear hg3 hb18 e0 e1 e2 e3 e4 hbl
            cases qv with
            | true =>
              have hm1 : M' = 1 := by have := i7 rfl; omega
              clear i7 i8
              go_upto_region 26 with (go_at_call 27; (go_must (with_reducible refine (add_lit (W0 := w) (C := fun j => (covs (rectsT ts) (cy row cn j) (cx col cn j) : Int) + (covs (rectsU (us.take k)) (cy row cn j) (cx col cn j) : Int)) h1 h2 (by omega) (by omega) HN.out.symm qr qc R' M' _ _ (by omega) (by omega) (by omega) (by omega) (by omega) (by omega) (by omega) (by omega) (((HBB.out.same HSB.out hlb).grows H6.out).grows (by repeat' (first | (with_reducible exact Grows.refl _) | (with_reducible refine Grows.alloc ?_ _) | (with_reducible refine Grows.drew ?_) | (with_reducible refine Grows.ext ?_ _ _)))) ((((HE5.out.grows HE6.out).same H4.out (show pc ≠ cb by omega)).grows H6.out).grows (by repeat' (first | (with_reducible exact Grows.refl _) | (with_reducible refine Grows.alloc ?_ _) | (with_reducible refine Grows.drew ?_) | (with_reducible refine Grows.ext ?_ _ _)))) ⟨by omega, by omega⟩ ((H1.out.same H6.out).same (by repeat' (first | (with_reducible exact Grows.refl _) | (with_reducible refine Grows.alloc ?_ _) | (with_reducible refine Grows.drew ?_) | (with_reducible refine Grows.ext ?_ _ _)))) (fun j _ => by have := HCO.out (cy row cn j) (cx col cn j); omega) (by omega) ((H3.out.trans H6.out).trans (by repeat' (first | (with_reducible exact Grows.refl _) | (with_reducible refine Grows.alloc ?_ _) | (with_reducible refine Grows.drew ?_) | (with_reducible refine Grows.ext ?_ _ _))))).mono ?_)); rintro e w4 ⟨rfl, hct4, hg4, hs4⟩; obtain ⟨g0, g1, g2, g3, g4⟩ := ((H7.out.grows (by repeat' (first | (with_reducible exact Grows.refl _) | (with_reducible refine Grows.alloc ?_ _) | (with_reducible refine Grows.drew ?_) | (with_reducible refine Grows.ext ?_ _ _)))).same hs4 hcb18).five; have hl18 := ((H7.out.grows (by repeat' (first | (with_reducible exact Grows.refl _) | (with_reducible refine Grows.alloc ?_ _) | (with_reducible refine Grows.drew ?_) | (with_reducible refine Grows.ext ?_ _ _)))).same hs4 hcb18).lt)
              have hct9 := Lib.hid (hct4.of (fun j _ => (HCV.out j)))
              have hg9 := Lib.hid hg4
              have hs9 := Lib.hid ((H4.out.trans (Grows.same (H6.out.trans (by repeat' (first | (with_reducible exact Grows.refl _) | (with_reducible refine Grows.alloc ?_ _) | (with_reducible refine Grows.drew ?_) | (with_reducible refine Grows.ext ?_ _ _)))) _)).trans hs4)
              clear hct4 hg4 hs4
              go_wp2_with fail
              go_roundw
              case rel => exact ⟨k + 1, _, rfl, by omega, by go_num, hct9.out.same (by repeat' (first | (with_reducible exact Grows.refl _) | (with_reducible refine Grows.alloc ?_ _) | (with_reducible refine Grows.drew ?_) | (with_reducible refine Grows.ext ?_ _ _))), hg9.out.trans (by repeat' (first | (with_reducible exact Grows.refl _) | (with_reducible refine Grows.alloc ?_ _) | (with_reducible refine Grows.drew ?_) | (with_reducible refine Grows.ext ?_ _ _))), hs9.out.trans (Grows.same (by repeat' (first | (with_reducible exact Grows.refl _) | (with_reducible refine Grows.alloc ?_ _) | (with_reducible refine Grows.drew ?_) | (with_reducible refine Grows.ext ?_ _ _))) _)⟩
              case measure => simp [intOf]; omega
            | false =>
              have hr1 : R' = 1 := by have := i8 rfl; omega
              clear i7 i8
              go_upto_region 26 with (go_at_call 27; (go_must (with_reducible refine (add_lit (W0 := w) (C := fun j => (covs (rectsT ts) (cy row cn j) (cx col cn j) : Int) + (covs (rectsU (us.take k)) (cy row cn j) (cx col cn j) : Int)) h1 h2 (by omega) (by omega) HN.out.symm qr qc R' M' _ _ (by omega) (by omega) (by omega) (by omega) (by omega) (by omega) (by omega) (by omega) (((HBB.out.same HSB.out hlb).grows H6.out).grows (by repeat' (first | (with_reducible exact Grows.refl _) | (with_reducible refine Grows.alloc ?_ _) | (with_reducible refine Grows.drew ?_) | (with_reducible refine Grows.ext ?_ _ _)))) ((((HE5.out.grows HE6.out).same H4.out (show pc ≠ cb by omega)).grows H6.out).grows (by repeat' (first | (with_reducible exact Grows.refl _) | (with_reducible refine Grows.alloc ?_ _) | (with_reducible refine Grows.drew ?_) | (with_reducible refine Grows.ext ?_ _ _)))) ⟨by omega, by omega⟩ ((H1.out.same H6.out).same (by repeat' (first | (with_reducible exact Grows.refl _) | (with_reducible refine Grows.alloc ?_ _) | (with_reducible refine Grows.drew ?_) | (with_reducible refine Grows.ext ?_ _ _)))) (fun j _ => by have := HCO.out (cy row cn j) (cx col cn j); omega) (by omega) ((H3.out.trans H6.out).trans (by repeat' (first | (with_reducible exact Grows.refl _) | (with_reducible refine Grows.alloc ?_ _) | (with_reducible refine Grows.drew ?_) | (with_reducible refine Grows.ext ?_ _ _))))).mono ?_)); rintro e w4 ⟨rfl, hct4, hg4, hs4⟩; obtain ⟨g0, g1, g2, g3, g4⟩ := ((H7.out.grows (by repeat' (first | (with_reducible exact Grows.refl _) | (with_reducible refine Grows.alloc ?_ _) | (with_reducible refine Grows.drew ?_) | (with_reducible refine Grows.ext ?_ _ _)))).same hs4 hcb18).five; have hl18 := ((H7.out.grows (by repeat' (first | (with_reducible exact Grows.refl _) | (with_reducible refine Grows.alloc ?_ _) | (with_reducible refine Grows.drew ?_) | (with_reducible refine Grows.ext ?_ _ _)))).same hs4 hcb18).lt)
              have hct9 := Lib.hid (hct4.of (fun j _ => (HCV.out j)))
              have hg9 := Lib.hid hg4
              have hs9 := Lib.hid ((H4.out.trans (Grows.same (H6.out.trans (by repeat' (first | (with_reducible exact Grows.refl _) | (with_reducible refine Grows.alloc ?_ _) | (with_reducible refine Grows.drew ?_) | (with_reducible refine Grows.ext ?_ _ _)))) _)).trans hs4)
              clear hct4 hg4 hs4
              go_wp2_with fail
              go_roundw
              case rel => exact ⟨k + 1, _, rfl, by omega, by go_num, hct9.out.same (by repeat' (first | (with_reducible exact Grows.refl _) | (with_reducible refine Grows.alloc ?_ _) | (with_reducible refine Grows.drew ?_) | (with_reducible refine Grows.ext ?_ _ _))), hg9.out.trans (by repeat' (first | (with_reducible exact Grows.refl _) | (with_reducible refine Grows.alloc ?_ _) | (with_reducible refine Grows.drew ?_) | (with_reducible refine Grows.ext ?_ _ _))), hs9.out.trans (Grows.same (by repeat' (first | (with_reducible exact Grows.refl _) | (with_reducible refine Grows.alloc ?_ _) | (with_reducible refine Grows.drew ?_) | (with_reducible refine Grows.ext ?_ _ _))) _)⟩
              case measure => simp [intOf]; omega
          · have e : k = nu := by omega
            subst e
            have etk : us.take k = us := List.take_of_length_le (by rw [HNT.out.2]; omega)
            rw [etk] at hct
            have HC1 := Lib.hid fun (j : Nat) (hj : j < N) => (show (covs (rectsT ts) (cy row cn j) (cx col cn j) : Int) + (covs (rectsU us) (cy row cn j) (cx col cn j) : Int) = 1 by
              have := HCOV.out (cy row cn j) (cx col cn j)
              rw [cov_in hj HN.out.symm] at this
              omega)
            have HCX := Lib.hid hct
            have HLX := Lib.hid (HFB.out.l.lt.same (HSB.out.mono' (S' := fun b => b ≠ w.heap.size ∧ b < WB.heap.size) fun b hb => by have := hb.2; rw [HCB.out] at this; exact this))
            obtain ⟨a0, a1, a2, a3⟩ := (HFB.out.b.same HSB.out hlp1).four
            have hla := (HFB.out.b.same HSB.out hlp1).lt
            have HPX := Lib.hid ((HE5.out.grows HE6.out).same hsm (show pc ≠ cb by omega))
            obtain ⟨x0, -⟩ := HPX.out.one
            have HVX := Lib.hid ((ints_of_cells (S := AnyB) (show pl.length = m from HPL.out.2) (ownsRow_cells (own_same (ownsRow_grows HOR.out HE6.out) hsm (fun b hb => by omega))) (fun _ _ _ => trivial) (by rw [HPL.out.2]; omega)))
            have elen : (k : Int) = (m : Int) - 1 := by omega
            clear hct hg hsm etk
            have hS := Grows.refl wx
            go_wp2_with (first | (go_at_call 20; (go_must (with_reducible refine (panesP_yes L HR.out _ _ _ (HLX.out.grows (hS.trans (by repeat' (first | (with_reducible exact Grows.refl _) | (with_reducible refine Grows.alloc ?_ _) | (with_reducible refine Grows.drew ?_) | (with_reducible refine Grows.ext ?_ _ _)))))).mono ?_)); rintro e wq ⟨v5, rfl, hv5, hq⟩; have hS0 := hS; clear hS; have hqq := Grows.trans (by repeat' (first | (with_reducible exact Grows.refl _) | (with_reducible refine Grows.alloc ?_ _) | (with_reducible refine Grows.drew ?_) | (with_reducible refine Grows.ext ?_ _ _))) hq; have hS := hS0.trans hqq; clear hS0 hq hqq; obtain ⟨x0, -⟩ := (HPX.out.grows hS).one; have hlx := (HPX.out.grows hS).lt; rw [HPL.out.1] at hv5) | (go_at_call 21; (go_must (with_reducible refine (wk_q _ _ _ _ (HVX.out.grows (hS.trans (by repeat' (first | (with_reducible exact Grows.refl _) | (with_reducible refine Grows.alloc ?_ _) | (with_reducible refine Grows.drew ?_) | (with_reducible refine Grows.ext ?_ _ _))))) (hv5.grows (by repeat' (first | (with_reducible exact Grows.refl _) | (with_reducible refine Grows.alloc ?_ _) | (with_reducible refine Grows.drew ?_) | (with_reducible refine Grows.ext ?_ _ _))))).mono ?_)); rintro e wq ⟨rfl, hq⟩; have hS0 := hS; clear hS; have hqq := Grows.trans (by repeat' (first | (with_reducible exact Grows.refl _) | (with_reducible refine Grows.alloc ?_ _) | (with_reducible refine Grows.drew ?_) | (with_reducible refine Grows.ext ?_ _ _))) hq; have hS := hS0.trans hqq; clear hS0 hq hqq; obtain ⟨x0, -⟩ := (HPX.out.grows hS).one; have hlx := (HPX.out.grows hS).lt) | (go_at_call 28; (go_must (with_reducible refine (contains_no (HCX.out.same (hS.trans (by repeat' (first | (with_reducible exact Grows.refl _) | (with_reducible refine Grows.alloc ?_ _) | (with_reducible refine Grows.drew ?_) | (with_reducible refine Grows.ext ?_ _ _))))) HC1.out hN2).mono ?_)); rintro e wq ⟨rfl, hq⟩; have hS0 := hS; clear hS; have hqq := Grows.trans (by repeat' (first | (with_reducible exact Grows.refl _) | (with_reducible refine Grows.alloc ?_ _) | (with_reducible refine Grows.drew ?_) | (with_reducible refine Grows.ext ?_ _ _))) hq; have hS := hS0.trans hqq; clear hS0 hq hqq; obtain ⟨x0, -⟩ := (HPX.out.grows hS).one; have hlx := (HPX.out.grows hS).lt))
            go_returns
            exact ⟨rfl, H3.out.trans (hS.trans (by repeat' (first | (with_reducible exact Grows.refl _) | (with_reducible refine Grows.alloc ?_ _) | (with_reducible refine Grows.drew ?_) | (with_reducible refine Grows.ext ?_ _ _))))⟩
end Go.Proofs.Ytbobpgegkmcapaa

