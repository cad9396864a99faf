/-
  Layouts: what Resize makes is right, and its panes. No program in sight. Walks: apply of the laws. Grown, what it yields. Walks: grown. A slice of edits among the arguments of a law, opened.
-/
import Derived.Test.YtbobpgegkmcapaaE1
import Derived.Test.YtbobpgegkmcapaaRows
import Derived.Test.YtbobpgegkmcapaaE2
import Derived.Test.YtbobpgegkmcapaaE8
import Derived.Test.YtbobpgegkmcapaaE9
import Derived.Test.YtbobpgegkmcapaaE12
import Derived.Test.YtbobpgegkmcapaaE13
import Derived.Test.YtbobpgegkmcapaaE14
import Derived.WalkKit
import Derived.WalkSpells
import Derived.WalkLawsBesides
import Derived.Handy
import Derived.Laws.Rows
import Derived.Great.BuildSlice
import Derived.Deep.Heap
import Derived.IntWalk
import Derived.Lib.Hide
import Derived.Outline
import Derived.Deep.Light
import Derived.Deep.LoopGhost
import Derived.BigGuardPart
import Derived.BigQuiet
import Derived.Deep.QuietTactic
import Derived.Deep.RegionHeld3
import Derived.Deep.DeepCutAuto
import Derived.Deep.CutBlock
import Derived.OwnWalk
import Derived.Maps.AppendAt
import Derived.Test.YtbobpgegkmcapaaE5
import Derived.Test.YtbobpgegkmcapaaEB
namespace Go.Proofs.Ytbobpgegkmcapaa
theorem resize_tree {pane kind delta : Int} : ∀ L : Lay, okTree L = true → (replL (resizeE kind delta) pane L).2 = true → okTree (replL (resizeE kind delta) pane L).1 = true ∧ (replL (resizeE kind delta) pane L).1.kind = L.kind ∧ panesL (replL (resizeE kind delta) pane L).1 = panesL L := by
  intro L
  induction L using Lay.ind with | h k p ks ws ih => ?_
  intro hok ht
  by_cases hp : pane ∈ (ks.map panesL).flatten
  · have hk1 : ¬ k = 1 := by
      rintro rfl
      obtain ⟨-, -, hz, -⟩ := validN_leaf (okTree_iff.1 hok).1 rfl
      have hz' : ks = [] := hz
      subst hz'
      simp at hp
    obtain ⟨hk2, hp0, h2, hl, hkk, hw, hko⟩ := split_facts hok hk1
    subst hp0
    obtain ⟨A, x, B, rfl, hpx, hA⟩ := hold_cut hp
    have hxo := hko x (by simp)
    have hne : ∀ y, y ∈ A ∨ y ∈ B → y.kind ≠ k ∧ okTree y = true := fun y hy => by
      have hm : y ∈ A ++ x :: B := by
        rcases hy with hy | hy
        · exact List.mem_append_left _ hy
        · exact List.mem_append_right _ (List.mem_cons_of_mem _ hy)
      exact ⟨hkk y hm, hko y hm⟩
    cases hx : (replL (resizeE kind delta) pane x).2 with
    | true =>
      obtain ⟨j2, j3, j4⟩ := ih x (by simp) hxo hx
      rw [repl_in' hpx hA hx]
      refine ⟨?_, rfl, ?_⟩
      · refine ok_split hk2 (by simp at h2 ⊢; omega) (by simp at hl ⊢; omega) ?_ hw ?_
        · intro y hy
          simp only [List.mem_append, List.mem_cons] at hy
          rcases hy with hy | rfl | hy
          · exact (hne y (.inl hy)).1
          · rw [j3]; exact hkk x (by simp)
          · exact (hne y (.inr hy)).1
        · intro y hy
          simp only [List.mem_append, List.mem_cons] at hy
          rcases hy with hy | rfl | hy
          · exact (hne y (.inl hy)).2
          · exact j2
          · exact (hne y (.inr hy)).2
      · rw [panesL_mk, panesL_mk, if_neg hk1, if_neg hk1, flat_cut, flat_cut, j4]
    | false =>
      rw [repl_at' hpx hA hx] at ht ⊢
      by_cases hkd : k = kind
      · subst hkd
        obtain ⟨y, hy⟩ : ∃ y, ws[A.length]? = some y := ⟨_, List.getElem?_eq_getElem (by rw [hl]; simp)⟩
        rw [resizeE_same hy]
        refine ⟨?_, rfl, ?_⟩
        · obtain ⟨WA, WB, rfl, hWA⟩ := cut_ex hy
          rw [← hWA, with_cut1]
          refine ok_split hk2 (by simp at h2 ⊢; omega) (by simp at hl ⊢; omega) hkk ?_ hko
          intro z hz
          simp only [List.mem_append, List.mem_singleton] at hz
          rcases hz with (hz | rfl) | hz
          · exact hw z (by simp [hz])
          · omega
          · exact hw z (by simp [hz])
        · show panesL (.mk k 0 (A ++ x :: B) _) = panesL (.mk k 0 (A ++ x :: B) ws)
          rw [panesL_mk, panesL_mk]
      · rw [resizeE_other hkd] at ht
        cases ht
  · rw [repl_none fun j y hy => not_mem_kids.1 hp y (List.mem_of_getElem? hy)] at ht
    cases ht
theorem resize_right {pane kind delta : Int} {L : Lay} (h : rightL L = true) (ht : (replL (resizeE kind delta) pane L).2 = true) : rightL (replL (resizeE kind delta) pane L).1 = true ∧ panesL (replL (resizeE kind delta) pane L).1 = panesL L := by
  rw [rightL_iff] at h ⊢
  obtain ⟨j1, -, j3⟩ := resize_tree L h.1 ht
  rw [j3]
  exact ⟨⟨j1, h.2⟩, rfl⟩
end Go.Proofs.Ytbobpgegkmcapaa

namespace Go.Proofs.Ytbobpgegkmcapaa
open Go.RowKit

structure Edt where
  kind : Int
  at_ : Int
  pane : Int
  way : Int
  n : Int
abbrev edV (x : Edt) : Value := .agg #[.int .i64 x.kind, .int .i64 x.at_, .int .i64 x.pane, .int .i64 x.way, .int .i64 x.n]
def kindE (x : Edt) : Int := (IntKind.u64.wrap x.kind).tmod 5
def applyF (L : Lay) (x : Edt) (pane : Int) : Lay × Int :=
  if kindE x = 0 then splitF L pane x.way x.n else if kindE x = 1 then closeF L pane else if kindE x = 2 then resizeF L pane x.way x.n else if kindE x = 3 then evenF L else swapF L pane x.n
theorem Blk.five {w : World} {n : Nat} {t : TypeId} {a b c d e : Value} (h : Blk w n t #[a, b, c, d, e]) : w.cell? ⟨n, 0, none⟩ = some a ∧ w.cell? ⟨n, 1, none⟩ = some b ∧ w.cell? ⟨n, 2, none⟩ = some c ∧ w.cell? ⟨n, 3, none⟩ = some d ∧ w.cell? ⟨n, 4, none⟩ = some e :=
  ⟨h.cell 0, h.cell 1, h.cell 2, h.cell 3, h.cell 4⟩
theorem EdResI.pair {S : Nat → Prop} {w w' : World} {q : Lay × Int} {y : Lay} {n : Int} {e : Ending} (h : EdResI S w w' q e) (hq : q = (y, n)) : ∃ ka kc wa wc, e = .returned (.tuple #[.agg #[.int .i64 y.kind, .int .i64 y.pane, .slice ka y.kids.length kc, .slice wa y.ws.length wc], .int .i64 n]) ∧ LayAt S w' y (.slice ka y.kids.length kc) (.slice wa y.ws.length wc) ∧ Grows w w' := by
  subst hq
  exact h.open_
set_option maxRecDepth 100000 in
set_option maxHeartbeats 4000000 in
theorem apply_0 {S : Nat → Prop} (L : Lay) (xk xa xp xw xn pane : Int) (h0 : kindE ⟨xk, xa, xp, xw, xn⟩ = 0) (vk vw : Value) (w : World) (hS : ∀ b, w.heap.size ≤ b → S b) (h : LayAt S w L vk vw) : Calls Try.prog 24 #[.agg #[.int .i64 L.kind, .int .i64 L.pane, vk, vw], .agg #[.int .i64 xk, .int .i64 xa, .int .i64 xp, .int .i64 xw, .int .i64 xn], .int .i64 pane] w (fun e w' => EdResI S w w' (splitF L pane xw xn) e) := by
  unfold kindE at h0
  dsimp only at h0
  have g0 : ((IntKind.u64.wrap xk).tmod 5 == 0) = true := by simpa using h0
  obtain ⟨ka, kc, e1, -⟩ := h.kids.shape rfl
  obtain ⟨wa, wc, e2, -⟩ := h.ints.shape rfl
  subst e1 e2
  have hX := h.exc (m := w.heap.size + 1 + 1) (by omega)
  have HE := Lib.hid fun W (g : Grows w W) (hz : w.heap.size + 3 ≤ W.heap.size) => splitF_any L pane xw xn _ _ W (exc_fresh (m := w.heap.size + 1 + 1) hS (by omega) (by omega)) (hX.grows g)
  obtain ⟨y, n, hq⟩ : ∃ y n, splitF L pane xw xn = (y, n) := ⟨_, _, rfl⟩
  rw [hq] at HE ⊢
  clear h hS hX hq h0
  generalize L.kids.length = kn at *
  generalize L.ws.length = wn at *
  go_enter Try.func24, Try.ntmps24
  go_upto_region 1 with fail
  refine abs_worldM (fun W' => Grows w W' ∧ Blk W' w.heap.size 25 #[.int .i64 L.kind, .int .i64 L.pane, .slice ka kn kc, .slice wa wn wc] ∧ Blk W' (w.heap.size + 1) 54 #[.int .i64 xk, .int .i64 xa, .int .i64 xp, .int .i64 xw, .int .i64 xn] ∧ Blk W' (w.heap.size + 1 + 1) 25 #[.int .i64 0, .int .i64 0, .slice none 0 0, .slice none 0 0]) (boxes3 _ _ _ _) ?_
  rintro W1 ⟨hg1, hb0, hb1, hb3⟩
  obtain ⟨a0, a1, a2, a3⟩ := hb0.four
  obtain ⟨b0, b1, b2, b3, b4⟩ := hb1.five
  have hl0 := hb0.lt
  have hl1 := hb1.lt
  have HB3 := Lib.hid hb3
  have HG1 := Lib.hid hg1
  have hs1 : w.heap.size + 3 ≤ W1.heap.size := by have := hb3.lt; omega
  clear hb0 hb1 hb3 hg1
  go_wp2_with (go_at_call 33; (go_must (with_reducible refine (HE.out _ (HG1.out.trans (by repeat' (first | (with_reducible exact Grows.refl _) | (with_reducible refine Grows.alloc ?_ _) | (with_reducible refine Grows.drew ?_) | (with_reducible refine Grows.ext ?_ _ _)))) (Nat.le_trans hs1 (Grows.size (w := W1) (by repeat' (first | (with_reducible exact Grows.refl _) | (with_reducible refine Grows.alloc ?_ _) | (with_reducible refine Grows.drew ?_) | (with_reducible refine Grows.ext ?_ _ _)))))).mono ?_)); rintro e w7 hE; obtain ⟨ka7, kc7, wa7, wc7, rfl, hl7, hg7⟩ := hE.open_; have hgV : Grows W1 w7 := Grows.trans (by repeat' (first | (with_reducible exact Grows.refl _) | (with_reducible refine Grows.alloc ?_ _) | (with_reducible refine Grows.drew ?_) | (with_reducible refine Grows.ext ?_ _ _))) hg7; obtain ⟨c0, c1, c2, c3⟩ := (HB3.out.grows hgV).four; obtain ⟨d0, d1, d2, d3⟩ := (HB3.out.grows hgV).four'; have hl3 := (HB3.out.grows hgV).lt)
  refine ret_cell_tmp (t := 25) (n := w.heap.size + 1 + 1) (cs := #[.int .i64 y.kind, .int .i64 y.pane, .slice ka7 y.kids.length kc7, .slice wa7 y.ws.length wc7]) rfl rfl rfl ?_ Try.underlying25 rfl (by kernel_rfl) rfl ?_
  · exact (HB3.out.grows hgV).set4
  · exact ⟨_, _, rfl, (hl7.same (exc_set4 _ _ _ _)).unexc, (HG1.out.trans hgV).set4 (by omega) _ _ _ _⟩
set_option maxRecDepth 100000 in
set_option maxHeartbeats 4000000 in
theorem apply_1 {S : Nat → Prop} (L : Lay) (xk xa xp xw xn pane : Int) (h0 : ¬ kindE ⟨xk, xa, xp, xw, xn⟩ = 0) (h1 : kindE ⟨xk, xa, xp, xw, xn⟩ = 1) (vk vw : Value) (w : World) (hS : ∀ b, w.heap.size ≤ b → S b) (h : LayAt S w L vk vw) : Calls Try.prog 24 #[.agg #[.int .i64 L.kind, .int .i64 L.pane, vk, vw], .agg #[.int .i64 xk, .int .i64 xa, .int .i64 xp, .int .i64 xw, .int .i64 xn], .int .i64 pane] w (fun e w' => EdResI S w w' (closeF L pane) e) := by
  unfold kindE at h0
  dsimp only at h0
  unfold kindE at h1
  dsimp only at h1
  have g0 : ((IntKind.u64.wrap xk).tmod 5 == 0) = false := by simpa using h0
  have g1 : ((IntKind.u64.wrap xk).tmod 5 == 1) = true := by simpa using h1
  obtain ⟨ka, kc, e1, -⟩ := h.kids.shape rfl
  obtain ⟨wa, wc, e2, -⟩ := h.ints.shape rfl
  subst e1 e2
  have hX := h.exc (m := w.heap.size + 1 + 1) (by omega)
  have HE := Lib.hid fun W (g : Grows w W) (hz : w.heap.size + 3 ≤ W.heap.size) => closeF_any L pane _ _ W (exc_fresh (m := w.heap.size + 1 + 1) hS (by omega) (by omega)) (hX.grows g)
  obtain ⟨y, n, hq⟩ : ∃ y n, closeF L pane = (y, n) := ⟨_, _, rfl⟩
  rw [hq] at HE ⊢
  clear h hS hX hq h0 h1
  generalize L.kids.length = kn at *
  generalize L.ws.length = wn at *
  go_enter Try.func24, Try.ntmps24
  go_upto_region 1 with fail
  refine abs_worldM (fun W' => Grows w W' ∧ Blk W' w.heap.size 25 #[.int .i64 L.kind, .int .i64 L.pane, .slice ka kn kc, .slice wa wn wc] ∧ Blk W' (w.heap.size + 1) 54 #[.int .i64 xk, .int .i64 xa, .int .i64 xp, .int .i64 xw, .int .i64 xn] ∧ Blk W' (w.heap.size + 1 + 1) 25 #[.int .i64 0, .int .i64 0, .slice none 0 0, .slice none 0 0]) (boxes3 _ _ _ _) ?_
  rintro W1 ⟨hg1, hb0, hb1, hb3⟩
  obtain ⟨a0, a1, a2, a3⟩ := hb0.four
  obtain ⟨b0, b1, b2, b3, b4⟩ := hb1.five
  have hl0 := hb0.lt
  have hl1 := hb1.lt
  have HB3 := Lib.hid hb3
  have HG1 := Lib.hid hg1
  have hs1 : w.heap.size + 3 ≤ W1.heap.size := by have := hb3.lt; omega
  clear hb0 hb1 hb3 hg1
  go_wp2_with (go_at_call 34; (go_must (with_reducible refine (HE.out _ (HG1.out.trans (by repeat' (first | (with_reducible exact Grows.refl _) | (with_reducible refine Grows.alloc ?_ _) | (with_reducible refine Grows.drew ?_) | (with_reducible refine Grows.ext ?_ _ _)))) (Nat.le_trans hs1 (Grows.size (w := W1) (by repeat' (first | (with_reducible exact Grows.refl _) | (with_reducible refine Grows.alloc ?_ _) | (with_reducible refine Grows.drew ?_) | (with_reducible refine Grows.ext ?_ _ _)))))).mono ?_)); rintro e w7 hE; obtain ⟨ka7, kc7, wa7, wc7, rfl, hl7, hg7⟩ := hE.open_; have hgV : Grows W1 w7 := Grows.trans (by repeat' (first | (with_reducible exact Grows.refl _) | (with_reducible refine Grows.alloc ?_ _) | (with_reducible refine Grows.drew ?_) | (with_reducible refine Grows.ext ?_ _ _))) hg7; obtain ⟨c0, c1, c2, c3⟩ := (HB3.out.grows hgV).four; obtain ⟨d0, d1, d2, d3⟩ := (HB3.out.grows hgV).four'; have hl3 := (HB3.out.grows hgV).lt)
  refine ret_cell_tmp (t := 25) (n := w.heap.size + 1 + 1) (cs := #[.int .i64 y.kind, .int .i64 y.pane, .slice ka7 y.kids.length kc7, .slice wa7 y.ws.length wc7]) rfl rfl rfl ?_ Try.underlying25 rfl (by kernel_rfl) rfl ?_
  · exact (HB3.out.grows hgV).set4
  · exact ⟨_, _, rfl, (hl7.same (exc_set4 _ _ _ _)).unexc, (HG1.out.trans hgV).set4 (by omega) _ _ _ _⟩
set_option maxRecDepth 100000 in
set_option maxHeartbeats 4000000 in
theorem apply_2 {S : Nat → Prop} (L : Lay) (xk xa xp xw xn pane : Int) (h0 : ¬ kindE ⟨xk, xa, xp, xw, xn⟩ = 0) (h1 : ¬ kindE ⟨xk, xa, xp, xw, xn⟩ = 1) (h2 : kindE ⟨xk, xa, xp, xw, xn⟩ = 2) (vk vw : Value) (w : World) (hS : ∀ b, w.heap.size ≤ b → S b) (h : LayAt S w L vk vw) : Calls Try.prog 24 #[.agg #[.int .i64 L.kind, .int .i64 L.pane, vk, vw], .agg #[.int .i64 xk, .int .i64 xa, .int .i64 xp, .int .i64 xw, .int .i64 xn], .int .i64 pane] w (fun e w' => EdResI S w w' (resizeF L pane xw xn) e) := by
  unfold kindE at h0
  dsimp only at h0
  unfold kindE at h1
  dsimp only at h1
  unfold kindE at h2
  dsimp only at h2
  have g0 : ((IntKind.u64.wrap xk).tmod 5 == 0) = false := by simpa using h0
  have g1 : ((IntKind.u64.wrap xk).tmod 5 == 1) = false := by simpa using h1
  have g2 : ((IntKind.u64.wrap xk).tmod 5 == 2) = true := by simpa using h2
  obtain ⟨ka, kc, e1, -⟩ := h.kids.shape rfl
  obtain ⟨wa, wc, e2, -⟩ := h.ints.shape rfl
  subst e1 e2
  have hX := h.exc (m := w.heap.size + 1 + 1) (by omega)
  have HE := Lib.hid fun W (g : Grows w W) (hz : w.heap.size + 3 ≤ W.heap.size) => resizeF_any L pane xw xn _ _ W (exc_fresh (m := w.heap.size + 1 + 1) hS (by omega) (by omega)) (hX.grows g)
  obtain ⟨y, n, hq⟩ : ∃ y n, resizeF L pane xw xn = (y, n) := ⟨_, _, rfl⟩
  rw [hq] at HE ⊢
  clear h hS hX hq h0 h1 h2
  generalize L.kids.length = kn at *
  generalize L.ws.length = wn at *
  go_enter Try.func24, Try.ntmps24
  go_upto_region 1 with fail
  refine abs_worldM (fun W' => Grows w W' ∧ Blk W' w.heap.size 25 #[.int .i64 L.kind, .int .i64 L.pane, .slice ka kn kc, .slice wa wn wc] ∧ Blk W' (w.heap.size + 1) 54 #[.int .i64 xk, .int .i64 xa, .int .i64 xp, .int .i64 xw, .int .i64 xn] ∧ Blk W' (w.heap.size + 1 + 1) 25 #[.int .i64 0, .int .i64 0, .slice none 0 0, .slice none 0 0]) (boxes3 _ _ _ _) ?_
  rintro W1 ⟨hg1, hb0, hb1, hb3⟩
  obtain ⟨a0, a1, a2, a3⟩ := hb0.four
  obtain ⟨b0, b1, b2, b3, b4⟩ := hb1.five
  have hl0 := hb0.lt
  have hl1 := hb1.lt
  have HB3 := Lib.hid hb3
  have HG1 := Lib.hid hg1
  have hs1 : w.heap.size + 3 ≤ W1.heap.size := by have := hb3.lt; omega
  clear hb0 hb1 hb3 hg1
  go_wp2_with (go_at_call 30; (go_must (with_reducible refine (HE.out _ (HG1.out.trans (by repeat' (first | (with_reducible exact Grows.refl _) | (with_reducible refine Grows.alloc ?_ _) | (with_reducible refine Grows.drew ?_) | (with_reducible refine Grows.ext ?_ _ _)))) (Nat.le_trans hs1 (Grows.size (w := W1) (by repeat' (first | (with_reducible exact Grows.refl _) | (with_reducible refine Grows.alloc ?_ _) | (with_reducible refine Grows.drew ?_) | (with_reducible refine Grows.ext ?_ _ _)))))).mono ?_)); rintro e w7 hE; obtain ⟨ka7, kc7, wa7, wc7, rfl, hl7, hg7⟩ := hE.open_; have hgV : Grows W1 w7 := Grows.trans (by repeat' (first | (with_reducible exact Grows.refl _) | (with_reducible refine Grows.alloc ?_ _) | (with_reducible refine Grows.drew ?_) | (with_reducible refine Grows.ext ?_ _ _))) hg7; obtain ⟨c0, c1, c2, c3⟩ := (HB3.out.grows hgV).four; obtain ⟨d0, d1, d2, d3⟩ := (HB3.out.grows hgV).four'; have hl3 := (HB3.out.grows hgV).lt)
  refine ret_cell_tmp (t := 25) (n := w.heap.size + 1 + 1) (cs := #[.int .i64 y.kind, .int .i64 y.pane, .slice ka7 y.kids.length kc7, .slice wa7 y.ws.length wc7]) rfl rfl rfl ?_ Try.underlying25 rfl (by kernel_rfl) rfl ?_
  · exact (HB3.out.grows hgV).set4
  · exact ⟨_, _, rfl, (hl7.same (exc_set4 _ _ _ _)).unexc, (HG1.out.trans hgV).set4 (by omega) _ _ _ _⟩
set_option maxRecDepth 100000 in
set_option maxHeartbeats 4000000 in
theorem apply_3 {S : Nat → Prop} (L : Lay) (xk xa xp xw xn pane : Int) (h0 : ¬ kindE ⟨xk, xa, xp, xw, xn⟩ = 0) (h1 : ¬ kindE ⟨xk, xa, xp, xw, xn⟩ = 1) (h2 : ¬ kindE ⟨xk, xa, xp, xw, xn⟩ = 2) (h3 : kindE ⟨xk, xa, xp, xw, xn⟩ = 3) (vk vw : Value) (w : World) (hS : ∀ b, w.heap.size ≤ b → S b) (h : LayAt S w L vk vw) : Calls Try.prog 24 #[.agg #[.int .i64 L.kind, .int .i64 L.pane, vk, vw], .agg #[.int .i64 xk, .int .i64 xa, .int .i64 xp, .int .i64 xw, .int .i64 xn], .int .i64 pane] w (fun e w' => EdResI S w w' (evenF L) e) := by
  unfold kindE at h0
  dsimp only at h0
  unfold kindE at h1
  dsimp only at h1
  unfold kindE at h2
  dsimp only at h2
  unfold kindE at h3
  dsimp only at h3
  have g0 : ((IntKind.u64.wrap xk).tmod 5 == 0) = false := by simpa using h0
  have g1 : ((IntKind.u64.wrap xk).tmod 5 == 1) = false := by simpa using h1
  have g2 : ((IntKind.u64.wrap xk).tmod 5 == 2) = false := by simpa using h2
  have g3 : ((IntKind.u64.wrap xk).tmod 5 == 3) = true := by simpa using h3
  obtain ⟨ka, kc, e1, -⟩ := h.kids.shape rfl
  obtain ⟨wa, wc, e2, -⟩ := h.ints.shape rfl
  subst e1 e2
  have hX := h.exc (m := w.heap.size + 1 + 1) (by omega)
  have HE := Lib.hid fun W (g : Grows w W) (hz : w.heap.size + 3 ≤ W.heap.size) => evenF_any L _ _ W (exc_fresh (m := w.heap.size + 1 + 1) hS (by omega) (by omega)) (hX.grows g)
  obtain ⟨y, n, hq⟩ : ∃ y n, evenF L = (y, n) := ⟨_, _, rfl⟩
  rw [hq] at HE ⊢
  clear h hS hX hq h0 h1 h2 h3
  generalize L.kids.length = kn at *
  generalize L.ws.length = wn at *
  go_enter Try.func24, Try.ntmps24
  go_upto_region 1 with fail
  refine abs_worldM (fun W' => Grows w W' ∧ Blk W' w.heap.size 25 #[.int .i64 L.kind, .int .i64 L.pane, .slice ka kn kc, .slice wa wn wc] ∧ Blk W' (w.heap.size + 1) 54 #[.int .i64 xk, .int .i64 xa, .int .i64 xp, .int .i64 xw, .int .i64 xn] ∧ Blk W' (w.heap.size + 1 + 1) 25 #[.int .i64 0, .int .i64 0, .slice none 0 0, .slice none 0 0]) (boxes3 _ _ _ _) ?_
  rintro W1 ⟨hg1, hb0, hb1, hb3⟩
  obtain ⟨a0, a1, a2, a3⟩ := hb0.four
  obtain ⟨b0, b1, b2, b3, b4⟩ := hb1.five
  have hl0 := hb0.lt
  have hl1 := hb1.lt
  have HB3 := Lib.hid hb3
  have HG1 := Lib.hid hg1
  have hs1 : w.heap.size + 3 ≤ W1.heap.size := by have := hb3.lt; omega
  clear hb0 hb1 hb3 hg1
  go_wp2_with (go_at_call 31; (go_must (with_reducible refine (HE.out _ (HG1.out.trans (by repeat' (first | (with_reducible exact Grows.refl _) | (with_reducible refine Grows.alloc ?_ _) | (with_reducible refine Grows.drew ?_) | (with_reducible refine Grows.ext ?_ _ _)))) (Nat.le_trans hs1 (Grows.size (w := W1) (by repeat' (first | (with_reducible exact Grows.refl _) | (with_reducible refine Grows.alloc ?_ _) | (with_reducible refine Grows.drew ?_) | (with_reducible refine Grows.ext ?_ _ _)))))).mono ?_)); rintro e w7 hE; obtain ⟨ka7, kc7, wa7, wc7, rfl, hl7, hg7⟩ := hE.open_; have hgV : Grows W1 w7 := Grows.trans (by repeat' (first | (with_reducible exact Grows.refl _) | (with_reducible refine Grows.alloc ?_ _) | (with_reducible refine Grows.drew ?_) | (with_reducible refine Grows.ext ?_ _ _))) hg7; obtain ⟨c0, c1, c2, c3⟩ := (HB3.out.grows hgV).four; obtain ⟨d0, d1, d2, d3⟩ := (HB3.out.grows hgV).four'; have hl3 := (HB3.out.grows hgV).lt)
  refine ret_cell_tmp (t := 25) (n := w.heap.size + 1 + 1) (cs := #[.int .i64 y.kind, .int .i64 y.pane, .slice ka7 y.kids.length kc7, .slice wa7 y.ws.length wc7]) rfl rfl rfl ?_ Try.underlying25 rfl (by kernel_rfl) rfl ?_
  · exact (HB3.out.grows hgV).set4
  · exact ⟨_, _, rfl, (hl7.same (exc_set4 _ _ _ _)).unexc, (HG1.out.trans hgV).set4 (by omega) _ _ _ _⟩
set_option maxRecDepth 100000 in
set_option maxHeartbeats 4000000 in
theorem apply_4 {S : Nat → Prop} (L : Lay) (xk xa xp xw xn pane : Int) (h0 : ¬ kindE ⟨xk, xa, xp, xw, xn⟩ = 0) (h1 : ¬ kindE ⟨xk, xa, xp, xw, xn⟩ = 1) (h2 : ¬ kindE ⟨xk, xa, xp, xw, xn⟩ = 2) (h3 : ¬ kindE ⟨xk, xa, xp, xw, xn⟩ = 3) (vk vw : Value) (w : World) (hS : ∀ b, w.heap.size ≤ b → S b) (h : LayAt S w L vk vw) : Calls Try.prog 24 #[.agg #[.int .i64 L.kind, .int .i64 L.pane, vk, vw], .agg #[.int .i64 xk, .int .i64 xa, .int .i64 xp, .int .i64 xw, .int .i64 xn], .int .i64 pane] w (fun e w' => EdResI S w w' (swapF L pane xn) e) := by
  unfold kindE at h0
  dsimp only at h0
  unfold kindE at h1
  dsimp only at h1
  unfold kindE at h2
  dsimp only at h2
  unfold kindE at h3
  dsimp only at h3
  have g0 : ((IntKind.u64.wrap xk).tmod 5 == 0) = false := by simpa using h0
  have g1 : ((IntKind.u64.wrap xk).tmod 5 == 1) = false := by simpa using h1
  have g2 : ((IntKind.u64.wrap xk).tmod 5 == 2) = false := by simpa using h2
  have g3 : ((IntKind.u64.wrap xk).tmod 5 == 3) = false := by simpa using h3
  obtain ⟨ka, kc, e1, -⟩ := h.kids.shape rfl
  obtain ⟨wa, wc, e2, -⟩ := h.ints.shape rfl
  subst e1 e2
  have hX := h.exc (m := w.heap.size + 1 + 1) (by omega)
  have HE := Lib.hid fun W (g : Grows w W) (hz : w.heap.size + 3 ≤ W.heap.size) => swapF_any L pane xn _ _ W (exc_fresh (m := w.heap.size + 1 + 1) hS (by omega) (by omega)) (hX.grows g)
  obtain ⟨y, n, hq⟩ : ∃ y n, swapF L pane xn = (y, n) := ⟨_, _, rfl⟩
  rw [hq] at HE ⊢
  clear h hS hX hq h0 h1 h2 h3
  generalize L.kids.length = kn at *
  generalize L.ws.length = wn at *
  go_enter Try.func24, Try.ntmps24
  go_upto_region 1 with fail
  refine abs_worldM (fun W' => Grows w W' ∧ Blk W' w.heap.size 25 #[.int .i64 L.kind, .int .i64 L.pane, .slice ka kn kc, .slice wa wn wc] ∧ Blk W' (w.heap.size + 1) 54 #[.int .i64 xk, .int .i64 xa, .int .i64 xp, .int .i64 xw, .int .i64 xn] ∧ Blk W' (w.heap.size + 1 + 1) 25 #[.int .i64 0, .int .i64 0, .slice none 0 0, .slice none 0 0]) (boxes3 _ _ _ _) ?_
  rintro W1 ⟨hg1, hb0, hb1, hb3⟩
  obtain ⟨a0, a1, a2, a3⟩ := hb0.four
  obtain ⟨b0, b1, b2, b3, b4⟩ := hb1.five
  have hl0 := hb0.lt
  have hl1 := hb1.lt
  have HB3 := Lib.hid hb3
  have HG1 := Lib.hid hg1
  have hs1 : w.heap.size + 3 ≤ W1.heap.size := by have := hb3.lt; omega
  clear hb0 hb1 hb3 hg1
  go_wp2_with (go_at_call 32; (go_must (with_reducible refine (HE.out _ (HG1.out.trans (by repeat' (first | (with_reducible exact Grows.refl _) | (with_reducible refine Grows.alloc ?_ _) | (with_reducible refine Grows.drew ?_) | (with_reducible refine Grows.ext ?_ _ _)))) (Nat.le_trans hs1 (Grows.size (w := W1) (by repeat' (first | (with_reducible exact Grows.refl _) | (with_reducible refine Grows.alloc ?_ _) | (with_reducible refine Grows.drew ?_) | (with_reducible refine Grows.ext ?_ _ _)))))).mono ?_)); rintro e w7 hE; obtain ⟨ka7, kc7, wa7, wc7, rfl, hl7, hg7⟩ := hE.open_; have hgV : Grows W1 w7 := Grows.trans (by repeat' (first | (with_reducible exact Grows.refl _) | (with_reducible refine Grows.alloc ?_ _) | (with_reducible refine Grows.drew ?_) | (with_reducible refine Grows.ext ?_ _ _))) hg7; obtain ⟨c0, c1, c2, c3⟩ := (HB3.out.grows hgV).four; obtain ⟨d0, d1, d2, d3⟩ := (HB3.out.grows hgV).four'; have hl3 := (HB3.out.grows hgV).lt)
  refine ret_cell_tmp (t := 25) (n := w.heap.size + 1 + 1) (cs := #[.int .i64 y.kind, .int .i64 y.pane, .slice ka7 y.kids.length kc7, .slice wa7 y.ws.length wc7]) rfl rfl rfl ?_ Try.underlying25 rfl (by kernel_rfl) rfl ?_
  · exact (HB3.out.grows hgV).set4
  · exact ⟨_, _, rfl, (hl7.same (exc_set4 _ _ _ _)).unexc, (HG1.out.trans hgV).set4 (by omega) _ _ _ _⟩
theorem apply_any {S : Nat → Prop} (L : Lay) (x : Edt) (pane : Int) (vk vw : Value) (w : World) (hS : ∀ b, w.heap.size ≤ b → S b) (h : LayAt S w L vk vw) : Calls Try.prog 24 #[.agg #[.int .i64 L.kind, .int .i64 L.pane, vk, vw], edV x, .int .i64 pane] w (fun e w' => EdResI S w w' (applyF L x pane) e) := by
  obtain ⟨xk, xa, xp, xw, xn⟩ := x
  unfold applyF
  by_cases h0 : kindE ⟨xk, xa, xp, xw, xn⟩ = 0
  · rw [if_pos h0]
    exact apply_0 L xk xa xp xw xn pane h0 vk vw w hS h
  rw [if_neg h0]
  by_cases h1 : kindE ⟨xk, xa, xp, xw, xn⟩ = 1
  · rw [if_pos h1]
    exact apply_1 L xk xa xp xw xn pane h0 h1 vk vw w hS h
  rw [if_neg h1]
  by_cases h2 : kindE ⟨xk, xa, xp, xw, xn⟩ = 2
  · rw [if_pos h2]
    exact apply_2 L xk xa xp xw xn pane h0 h1 h2 vk vw w hS h
  rw [if_neg h2]
  by_cases h3 : kindE ⟨xk, xa, xp, xw, xn⟩ = 3
  · rw [if_pos h3]
    exact apply_3 L xk xa xp xw xn pane h0 h1 h2 h3 vk vw w hS h
  rw [if_neg h3]
  exact apply_4 L xk xa xp xw xn pane h0 h1 h2 h3 vk vw w hS h
end Go.Proofs.Ytbobpgegkmcapaa

namespace Go.Proofs.Ytbobpgegkmcapaa
open Go.RowKit

def paneE (L : Lay) (x : Edt) : Int := if 0 ≤ x.at_ then ((panesL L)[(x.at_.tmod (panesL L).length).toNat]?).getD 0 else x.pane
theorem right_apply {L : Lay} (h : rightL L = true) (x : Edt) (pane : Int) (h0 : (applyF L x pane).2 = 0) : rightL (applyF L x pane).1 = true := by
  have hr : ¬ rightL L = false := by rw [h]; decide
  have hok := (rightL_iff.1 h).1
  unfold applyF at h0 ⊢
  split at h0
  · rename_i hk
    rw [if_pos hk]
    unfold splitF at h0 ⊢
    rw [if_neg hr] at h0 ⊢
    split at h0
    · cases h0
    · split at h0
      · cases h0
      · split at h0
        · cases h0
        · rename_i g1 g2 g3
          rw [if_neg g1, if_neg g2, if_neg g3]
          have e1 : x.way = 2 ∨ x.way = 3 := Decidable.byContradiction fun e => g2 (.inl e)
          have e2 : ¬ x.n < 0 := fun e => g2 (.inr (.inl e))
          have e3 : ¬ 999 < x.n := fun e => g2 (.inr (.inr (.inl e)))
          have e4 : x.n ∉ panesL L := fun e => g2 (.inr (.inr (.inr e)))
          exact split_right e1 (by omega) h (Decidable.not_not.1 g1) e4 g3
  · rename_i hk
    rw [if_neg hk]
    split at h0
    · rename_i hk
      rw [if_pos hk]
      unfold closeF at h0 ⊢
      rw [if_neg hr] at h0 ⊢
      split at h0
      · cases h0
      · split at h0
        · cases h0
        · rename_i g1 g2
          rw [if_neg g1, if_neg g2]
          exact (drop_right h (Decidable.not_not.1 g1) g2).1
    · rename_i hk
      rw [if_neg hk]
      split at h0
      · rename_i hk
        rw [if_pos hk]
        unfold resizeF at h0 ⊢
        rw [if_neg hr] at h0 ⊢
        split at h0
        · cases h0
        · split at h0
          · cases h0
          · split at h0
            · rename_i g1 g2 g3
              rw [if_neg g1, if_neg g2, if_pos g3]
              exact (resize_right h g3).1
            · cases h0
      · rename_i hk
        rw [if_neg hk]
        split at h0
        · rename_i hk
          rw [if_pos hk]
          unfold evenF
          rw [if_neg hr]
          exact even_right h
        · rename_i hk
          rw [if_neg hk]
          unfold swapF at h0 ⊢
          rw [if_neg hr] at h0 ⊢
          split at h0
          · cases h0
          · rename_i g
            rw [if_neg g]
            have g1 : pane ∈ panesL L := Decidable.not_not.1 fun e => g (.inl e)
            have g2 : x.n ∈ panesL L := Decidable.not_not.1 fun e => g (.inr e)
            exact swap_right (pane_range hok _ g1) (pane_range hok _ g2) h
/-- A slice of edits. -/
def ed1 (x : Edt) : List Value := [.int .i64 x.kind, .int .i64 x.at_, .int .i64 x.pane, .int .i64 x.way, .int .i64 x.n]
def edC (xs : List Edt) : List Value := (xs.map ed1).flatten
theorem edit_at {w : World} {a : Option Addr} {n c : Nat} {xs : List Edt} (h : CellsAt 5 w (.slice a n c) n (edC xs)) (hn : xs.length = n) {i : Nat} (hi : i < n) : ∃ b off q, a = some ⟨b, off, none⟩ ∧ b < w.heap.size ∧ xs[i]? = some q ∧ w.cell? ⟨b, off + i * 5, none⟩ = some (.int .i64 q.kind) ∧ w.cell? ⟨b, off + i * 5 + 1, none⟩ = some (.int .i64 q.at_) ∧ w.cell? ⟨b, off + i * 5 + 2, none⟩ = some (.int .i64 q.pane) ∧ w.cell? ⟨b, off + i * 5 + 3, none⟩ = some (.int .i64 q.way) ∧ w.cell? ⟨b, off + i * 5 + 4, none⟩ = some (.int .i64 q.n) := by
  obtain ⟨-, a', c', e, -, hin⟩ := h
  cases e
  obtain ⟨b, off, rfl, hb, hx⟩ := hin (by omega)
  have hq : xs[i]? = some (xs[i]'(by omega)) := List.getElem?_eq_getElem (by omega)
  have key := fun j hj => five_at ed1 (fun _ => rfl) xs i _ j hq hj
  exact ⟨b, off, _, rfl, hb, hq, hx _ _ (key 0 (by decide)), hx (i * 5 + 1) _ (key 1 (by decide)), hx (i * 5 + 2) _ (key 2 (by decide)), hx (i * 5 + 3) _ (key 3 (by decide)), hx (i * 5 + 4) _ (key 4 (by decide))⟩
end Go.Proofs.Ytbobpgegkmcapaa

namespace Go.Proofs.Ytbobpgegkmcapaa
open Go.RowKit

theorem rem_index {z : Int} {n : Nat} (h0 : 0 ≤ z) (hn : 1 ≤ n) : ∃ j : Nat, z.tmod n = (j : Int) ∧ j < n ∧ (z.tmod n).toNat = j := by
  have h1 : 0 ≤ z.tmod n := Int.tmod_nonneg _ h0
  have h2 : z.tmod n < n := Int.tmod_lt_of_pos _ (by omega)
  exact ⟨(z.tmod n).toNat, by omega, by omega, rfl⟩
theorem paneE_in {L : Lay} {x : Edt} {j : Nat} {p : Int} (h0 : 0 ≤ x.at_) (hj : (x.at_.tmod (panesL L).length).toNat = j) (hp : (panesL L)[j]? = some p) : paneE L x = p := by
  unfold paneE
  rw [if_pos h0, hj, hp]
  rfl
theorem paneE_out {L : Lay} {x : Edt} (h0 : ¬ 0 ≤ x.at_) : paneE L x = x.pane := by
  unfold paneE
  rw [if_neg h0]
end Go.Proofs.Ytbobpgegkmcapaa

namespace Go.Proofs.Ytbobpgegkmcapaa
open Go.ChangeShapes Go.WideShapes Go.ChangeAt Go.RowKit Go.Deep Go.Joins
section
variable {H : Type} {enc : TypeId × Value → H} {w : World} {sp : Nat → Bool} {held : Bool}
theorem ed_cells (xs : List Edt) (j : Nat) (u : Value) (h : (edC xs)[j]? = some u) : ∃ i q r, j = i * 5 + r ∧ r < 5 ∧ xs[i]? = some q ∧ (ed1 q)[r]? = some u := by
  have hl : (edC xs).length = xs.length * 5 := by
    clear h
    unfold edC
    induction xs with
    | nil => rfl
    | cons x xs ih =>
      rw [List.map_cons, List.flatten_cons, List.length_append, ih]
      simp only [ed1, List.length_cons, List.length_nil]
      omega
  have hj := (List.getElem?_eq_some_iff.1 h).1
  rw [hl] at hj
  have hi : j / 5 < xs.length := by omega
  have hq : xs[j / 5]? = some xs[j / 5] := List.getElem?_eq_getElem hi
  refine ⟨j / 5, xs[j / 5], j % 5, by omega, by omega, hq, ?_⟩
  rw [← five_at ed1 (fun _ => rfl) xs (j / 5) _ (j % 5) hq (by omega), show j / 5 * 5 + j % 5 = j by omega]
  exact h
set_option maxRecDepth 100000 in
theorem arg_edits {r : Reach} {b : Nat} {v : Value} {d : DataW H} {p : List MemPlace} (hv : Value.okWide Try.prog w r b 52 v) (h : DataW.Trod enc Try.prog w 0 sp held 52 v d p) : ∃ (xs : List Edt) (a : Option Addr) (n c : Nat), v = .slice a n c ∧ xs.length = n ∧ n ≤ c ∧ n ≤ 9223372036854775807 ∧ CellsAt 5 w (.slice a n c) n (edC xs) := by
  obtain ⟨fuel, h⟩ := h
  have hsl : ∃ oa l c, v = .slice oa l c := by
    simp only [Value.okWide, Try.underlying52, Cell.okWide] at hv
    cases v <;> simp_all [Cell.ok]
  obtain ⟨oa, len, cap, rfl⟩ := hsl
  rcases open_slice Try.underlying52 h with ⟨h1, -⟩ | ⟨a, len2, cap2, m, n, D, Pl, h1, hb, hl, hm, hmm, -, hx⟩
  · simp [Value.cells] at h1
    obtain ⟨rfl, rfl, rfl⟩ := h1
    exact ⟨[], none, 0, 0, rfl, rfl, Nat.le_refl _, Nat.zero_le _, rfl, none, 0, rfl, Nat.le_refl _, fun h => absurd rfl h⟩
  · simp [Value.cells] at h1
    obtain ⟨rfl, rfl, rfl⟩ := h1
    have hlm : len ≤ m := by rw [hmm]; split <;> omega
    have c54 : Try.prog.cellsOf 54 = 5 := by kernel_rfl
    have c3 : Try.prog.cellsOf 3 = 1 := by kernel_rfl
    have each : ∀ i, i < m → ∃ q : Edt, ∀ r u, (ed1 q)[r]? = some u → w.cell? (a.add (i * 5 + r)) = some u := by
      intro i hi
      obtain ⟨cs', g1, g2⟩ := hx i hi
      rw [c54] at g1
      obtain ⟨_, hlen, hcell⟩ := World.cells?_some g1
      obtain ⟨xs, n', rfl, -, hl', hlen', hf⟩ := DataW.trod_struct Try.underlying54 g2
      have t0 : DataW.trod enc Try.prog w 0 sp held n' 3 ((cs'.drop 0).take (Try.prog.cellsOf 3)) = xs[0]? := hf 0 _ rfl
      have t1 : DataW.trod enc Try.prog w 0 sp held n' 3 ((cs'.drop 1).take (Try.prog.cellsOf 3)) = xs[1]? := hf 1 _ rfl
      have t2 : DataW.trod enc Try.prog w 0 sp held n' 3 ((cs'.drop 2).take (Try.prog.cellsOf 3)) = xs[2]? := hf 2 _ rfl
      have t3 : DataW.trod enc Try.prog w 0 sp held n' 3 ((cs'.drop 3).take (Try.prog.cellsOf 3)) = xs[3]? := hf 3 _ rfl
      have t4 : DataW.trod enc Try.prog w 0 sp held n' 3 ((cs'.drop 4).take (Try.prog.cellsOf 3)) = xs[4]? := hf 4 _ rfl
      match cs', hlen with
      | [v0, v1, v2, v3, v4], _ =>
        match xs, hlen' with
        | [x0, x1, x2, x3, x4], _ =>
          rw [c3] at t0 t1 t2 t3 t4
          simp only [List.drop_succ_cons, List.drop_zero, List.take_succ_cons, List.take_zero, List.getElem?_cons_zero, List.getElem?_cons_succ] at t0 t1 t2 t3 t4
          obtain ⟨z0, e0, -, -⟩ := DataW.trod_int Try.underlying3 t0
          obtain ⟨z1, e1, -, -⟩ := DataW.trod_int Try.underlying3 t1
          obtain ⟨z2, e2, -, -⟩ := DataW.trod_int Try.underlying3 t2
          obtain ⟨z3, e3, -, -⟩ := DataW.trod_int Try.underlying3 t3
          obtain ⟨z4, e4, -, -⟩ := DataW.trod_int Try.underlying3 t4
          simp only [List.cons.injEq, and_true] at e0 e1 e2 e3 e4
          subst e0; subst e1; subst e2; subst e3; subst e4
          have d0 := hcell 0 (by omega)
          have d1 := hcell 1 (by omega)
          have d2 := hcell 2 (by omega)
          have d3 := hcell 3 (by omega)
          have d4 := hcell 4 (by omega)
          rw [add_add] at d0 d1 d2 d3 d4
          refine ⟨⟨z0, z1, z2, z3, z4⟩, fun r u hu => ?_⟩
          match r, hu with
          | 0, hu =>
            obtain rfl : Value.int .i64 z0 = u := by simpa [ed1] using hu
            simpa using d0
          | 1, hu =>
            obtain rfl : Value.int .i64 z1 = u := by simpa [ed1] using hu
            simpa using d1
          | 2, hu =>
            obtain rfl : Value.int .i64 z2 = u := by simpa [ed1] using hu
            simpa using d2
          | 3, hu =>
            obtain rfl : Value.int .i64 z3 = u := by simpa [ed1] using hu
            simpa using d3
          | 4, hu =>
            obtain rfl : Value.int .i64 z4 = u := by simpa [ed1] using hu
            simpa using d4
          | n + 5, hu => simp [ed1] at hu
    have : Inhabited Edt := ⟨⟨0, 0, 0, 0, 0⟩⟩
    obtain ⟨q, hq⟩ := choose_lt each
    refine ⟨(List.range len).map q, some a, len, cap, rfl, by simp, by simpa using hl, by simp only [maxLen] at hm; omega, ?_⟩
    refine ⟨?_, some a, cap, rfl, by simpa using hl, fun hne => ?_⟩
    · unfold edC
      generalize hls : (List.range len).map q = ls
      have : ls.length = len := by rw [← hls]; simp
      rw [← this]
      clear hls this
      induction ls with
      | nil => rfl
      | cons x ls ih =>
        rw [List.map_cons, List.flatten_cons, List.length_append, ih]
        simp only [ed1, List.length_cons, List.length_nil]
        omega
    · have hz := hq 0 (by omega) 0 _ rfl
      have hsp : a.spot = none := by simpa [Addr.add] using World.cell?_spot hz
      have hlt : a.block < w.heap.size := by simpa [Addr.add] using cell_lt hz
      obtain ⟨bl, off, spot⟩ := a
      subst hsp
      refine ⟨bl, off, rfl, hlt, fun j u hj => ?_⟩
      obtain ⟨i, q', r', rfl, hr5, hi, hu⟩ := ed_cells _ j u hj
      rw [List.getElem?_map] at hi
      have hil : i < len := by
        rcases Nat.lt_or_ge i len with h' | h'
        · exact h'
        · rw [List.getElem?_eq_none (by simpa using h')] at hi
          cases hi
      rw [List.getElem?_range hil] at hi
      obtain rfl : q i = q' := by simpa using hi
      have := hq i (by omega) r' u hu
      rwa [add_plain] at this
end
end Go.Proofs.Ytbobpgegkmcapaa

