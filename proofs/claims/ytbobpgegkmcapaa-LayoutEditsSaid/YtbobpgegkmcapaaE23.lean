/-
  Walks: the reference's Split, of a leaf. Walks: the reference's Split. Walks: the reference's Close.
-/
import Derived.Test.YtbobpgegkmcapaaRows
import Derived.Test.YtbobpgegkmcapaaE1
import Derived.Test.YtbobpgegkmcapaaE22
import Derived.Test.YtbobpgegkmcapaaE2
import Derived.Test.YtbobpgegkmcapaaE3
import Derived.Test.YtbobpgegkmcapaaE5
import Derived.Test.YtbobpgegkmcapaaE8
import Derived.Test.YtbobpgegkmcapaaE9
import Derived.Test.YtbobpgegkmcapaaE10
import Derived.Test.YtbobpgegkmcapaaE11
import Derived.WalkKit
import Derived.WalkSpells
import Derived.WalkLawsBesides
import Derived.Handy
import Derived.Laws.Rows
import Derived.Great.BuildSlice
import Derived.Deep.Heap
import Derived.IntWalk
import Derived.Lib.Hide
import Derived.Outline
import Derived.Deep.Light
import Derived.Deep.LoopGhost
import Derived.BigGuardPart
import Derived.BigQuiet
import Derived.Deep.QuietTactic
import Derived.Deep.RegionHeld3
import Derived.Deep.DeepCutAuto
import Derived.Deep.CutBlock
import Derived.OwnWalk
import Derived.Maps.AppendAt
import Derived.OneCell
namespace Go.Proofs.Ytbobpgegkmcapaa
open Go.RowKit

theorem rleaf_g (p : Int) (w : World) : Calls Try.prog 75 #[.int .i64 p] w (fun e w' => e = .returned (.agg #[.int .i64 1, .int .i64 p, .slice none 0 0, .slice none 0 0]) ∧ Grows w w') :=
  (rleaf_any p w).mono (by rintro e w' ⟨rfl, h, d, rfl⟩; exact ⟨rfl, (by repeat' (first | (with_reducible exact Grows.refl _) | (with_reducible refine Grows.alloc ?_ _) | (with_reducible refine Grows.drew ?_) | (with_reducible refine Grows.ext ?_ _ _)))⟩)
theorem addL_head (L X : Lay) (g : Int) : (addL L X g).kind = L.kind ∧ (addL L X g).pane = L.pane := by
  unfold addL
  split
  · exact ⟨rfl, rfl⟩
  · exact ⟨rfl, rfl⟩
theorem stepS_head (pane kind fresh k : Int) (out x r : Lay) (g : Int) : (stepS pane kind fresh k out x r g).kind = out.kind ∧ (stepS pane kind fresh k out x r g).pane = out.pane := by
  unfold stepS
  split
  · exact ⟨(addL_head _ _ _).1.trans (addL_head _ _ _).1, (addL_head _ _ _).2.trans (addL_head _ _ _).2⟩
  · exact addL_head _ _ _
theorem outS_head (pane kind fresh k : Int) (l : List (Lay × Int)) : (outS pane kind fresh k l).kind = k ∧ (outS pane kind fresh k l).pane = 0 := by
  have key : ∀ (l : List (Lay × Int)) (o : Lay), (l.foldl (fun out q => stepS pane kind fresh k out q.1 (rsplitL pane kind fresh q.1) q.2) o).kind = o.kind ∧ (l.foldl (fun out q => stepS pane kind fresh k out q.1 (rsplitL pane kind fresh q.1) q.2) o).pane = o.pane := by
    intro l
    induction l with
    | nil => intro o; exact ⟨rfl, rfl⟩
    | cons q l ih =>
      intro o
      rw [List.foldl_cons]
      exact ⟨(ih _).1.trans (stepS_head _ _ _ _ _ _ _ _).1, (ih _).2.trans (stepS_head _ _ _ _ _ _ _ _).2⟩
  exact key l _
/-- The reference's add, its layouts told by their cells. -/
theorem radd_k {S : Nat → Prop} (L X : Lay) (g : Int) {k p k' p' : Int} (hk : L.kind = k) (hp : L.pane = p) (hk' : X.kind = k') (hp' : X.pane = p') (vk vw xk xw : Value) (w : World) (hS : ∀ b, w.heap.size ≤ b → S b) (h : LayAt S w L vk vw) (hX : LayAt S w X xk xw) (n1 : Wid L 1000) (n2 : Wid X 1000) :
    Calls Try.prog 76 #[.agg #[.int .i64 k, .int .i64 p, vk, vw], .agg #[.int .i64 k', .int .i64 p', xk, xw], .int .i64 g] w (fun e w' => ∃ ka n1 kc wa n2 wc, e = .returned (.agg #[.int .i64 k, .int .i64 p, .slice ka n1 kc, .slice wa n2 wc]) ∧ LayAt S w' (addL L X g) (.slice ka n1 kc) (.slice wa n2 wc) ∧ Grows w w') := by
  subst hk hp hk' hp'
  refine (radd_any L X g vk vw xk xw w hS h hX n1.1 n1.2 n2.1 n2.2).mono fun e w' hE => ?_
  obtain ⟨ka, kc, wa, wc, rfl, hl, hg⟩ := hE.open_
  rw [(addL_head L X g).1, (addL_head L X g).2]
  exact ⟨ka, _, kc, wa, _, wc, rfl, hl, hg⟩
set_option maxRecDepth 100000 in
set_option maxHeartbeats 4000000 in
theorem rsplit_leaf1 {S : Nat → Prop} (p pane kind fresh : Int) (hp : (p != pane) = true) (a wa : Option Addr) (cap wc : Nat) (w : World) (h : LayAt S w (leafL p) (.slice a 0 cap) (.slice wa 0 wc)) : Calls Try.prog 50 #[.agg #[.int .i64 1, .int .i64 p, .slice a 0 cap, .slice wa 0 wc], .int .i64 pane, .int .i64 kind, .int .i64 fresh] w (fun e w' => LRes S w w' (leafL p) e) := by
  have HL := Lib.hid h
  clear h
  go_enter Try.func50, Try.ntmps50
  go_upto_region 1 with fail
  refine abs_worldM (fun W => Grows w W ∧ Blk W w.heap.size 25 #[.int .i64 1, .int .i64 p, .slice a 0 cap, .slice wa 0 wc] ∧ Blk W (w.heap.size + 1) 25 #[.int .i64 0, .int .i64 0, .slice none 0 0, .slice none 0 0]) (boxes2 _ _ _) ?_
  rintro W0 ⟨hg0, hb0, hb1⟩
  obtain ⟨a0, a1, a2, a3⟩ := hb0.four
  obtain ⟨d0, d1, d2, d3⟩ := hb1.four
  obtain ⟨f0, f1, f2, f3⟩ := hb1.four'
  have hl0 := hb0.lt
  have hl1 := hb1.lt
  have HB1 := Lib.hid hb1
  have HG0 := Lib.hid hg0
  clear hb0 hb1 hg0
  go_wp2_with fail
  refine ret_cell (t := 25) (n := w.heap.size + 1) (cs := #[.int .i64 1, .int .i64 p, .slice a 0 cap, .slice wa 0 wc]) rfl rfl ?_ Try.underlying25 rfl (by kernel_rfl) rfl ?_
  · exact HB1.out.set4
  · have hg9 := HG0.out.set4 (n := w.heap.size + 1) (by omega) (.int .i64 1) (.int .i64 p) (.slice a 0 cap) (.slice wa 0 wc)
    exact ⟨_, _, rfl, HL.out.grows hg9, hg9⟩
set_option maxRecDepth 100000 in
set_option maxHeartbeats 4000000 in
theorem rsplit_leaf2 {S : Nat → Prop} (p pane kind fresh : Int) (hp : (p != pane) = false) (a wa : Option Addr) (cap wc : Nat) (w : World) (hS : ∀ b, w.heap.size ≤ b → S b) : Calls Try.prog 50 #[.agg #[.int .i64 1, .int .i64 p, .slice a 0 cap, .slice wa 0 wc], .int .i64 pane, .int .i64 kind, .int .i64 fresh] w (fun e w' => LRes S w w' (pairL kind pane fresh) e) := by
  have HS := Lib.hid hS
  clear hS
  go_enter Try.func50, Try.ntmps50
  go_upto_region 1 with fail
  refine abs_worldM (fun W => Grows w W ∧ Blk W w.heap.size 25 #[.int .i64 1, .int .i64 p, .slice a 0 cap, .slice wa 0 wc] ∧ Blk W (w.heap.size + 1) 25 #[.int .i64 0, .int .i64 0, .slice none 0 0, .slice none 0 0]) (boxes2 _ _ _) ?_
  rintro W0 ⟨hg0, hb0, hb1⟩
  obtain ⟨a0, a1, a2, a3⟩ := hb0.four
  have hl0 := hb0.lt
  have HB1 := Lib.hid hb1
  have HG0 := Lib.hid hg0
  have hT := Grows.refl W0
  have hlt1 := hb1.lt
  clear hb0 hb1 hg0
  go_wp2_with (go_at_call 75; (go_must (with_reducible refine (rleaf_g _ _).mono ?_)); rintro e wq ⟨rfl, hq⟩; have hT0 := hT; clear hT; have hT := hT0.trans (Grows.trans (by repeat' (first | (with_reducible exact Grows.refl _) | (with_reducible refine Grows.alloc ?_ _) | (with_reducible refine Grows.drew ?_) | (with_reducible refine Grows.ext ?_ _ _))) hq); clear hT0 hq; have hl1 := (HB1.out.grows hT).lt; obtain ⟨d0, d1, d2, d3⟩ := (HB1.out.grows hT).four; obtain ⟨f0, f1, f2, f3⟩ := (HB1.out.grows hT).four'; have hl2 := (HB1.out.grows (hT.trans (((Grows.refl wq).alloc (.cells #[.int .i64 1, .int .i64 pane, .slice none 0 0, .slice none 0 0, .int .i64 1, .int .i64 fresh, .slice none 0 0, .slice none 0 0] 25)).alloc (.cells #[.int .i64 1, .int .i64 1] 3)))).lt; obtain ⟨c0, c1, c2, c3⟩ := (HB1.out.grows (hT.trans (((Grows.refl wq).alloc (.cells #[.int .i64 1, .int .i64 pane, .slice none 0 0, .slice none 0 0, .int .i64 1, .int .i64 fresh, .slice none 0 0, .slice none 0 0] 25)).alloc (.cells #[.int .i64 1, .int .i64 1] 3)))).four; obtain ⟨g0, g1, g2, g3⟩ := (HB1.out.grows (hT.trans (((Grows.refl wq).alloc (.cells #[.int .i64 1, .int .i64 pane, .slice none 0 0, .slice none 0 0, .int .i64 1, .int .i64 fresh, .slice none 0 0, .slice none 0 0] 25)).alloc (.cells #[.int .i64 1, .int .i64 1] 3)))).four')
  refine ret_cell (t := 25) (n := w.heap.size + 1) (cs := #[.int .i64 kind, .int .i64 0, .slice (some ⟨wq.heap.size, 0, none⟩) 2 2, .slice (some ⟨wq.heap.size + 1, 0, none⟩) 2 2]) rfl rfl ?_ Try.underlying25 rfl (by kernel_rfl) rfl ?_
  · exact ((HB1.out.grows hT).grows (by repeat' (first | (with_reducible exact Grows.refl _) | (with_reducible refine Grows.alloc ?_ _) | (with_reducible refine Grows.drew ?_) | (with_reducible refine Grows.ext ?_ _ _)))).set4
  · have hg9 := (HG0.out.trans (hT.trans (((Grows.refl wq).alloc (.cells #[.int .i64 1, .int .i64 pane, .slice none 0 0, .slice none 0 0, .int .i64 1, .int .i64 fresh, .slice none 0 0, .slice none 0 0] 25)).alloc (.cells #[.int .i64 1, .int .i64 1] 3)))).set4 (n := w.heap.size + 1) (by omega) (.int .i64 kind) (.int .i64 0) (.slice (some ⟨wq.heap.size, 0, none⟩) 2 2) (.slice (some ⟨wq.heap.size + 1, 0, none⟩) 2 2)
    have hs1 := HG0.out.size
    have hs2 := hT.size
    refine ⟨_, _, rfl, ?_, hg9⟩
    have hk := kids_two (S := Exc (w.heap.size + 1) S) (w := wq) (p := pane) (q := fresh) rfl ⟨HS.out _ (by omega), by omega⟩
    have hi := ints_two (S := Exc (w.heap.size + 1) S) (w := wq.alloc (.cells #[.int .i64 1, .int .i64 pane, .slice none 0 0, .slice none 0 0, .int .i64 1, .int .i64 fresh, .slice none 0 0, .slice none 0 0] 25)) (x := 1) (y := 1) rfl ⟨HS.out _ (by rw [World.size_alloc]; omega), by rw [World.size_alloc]; omega⟩
    have hl : LayAt (Exc (w.heap.size + 1) S) _ (pairL kind pane fresh) _ _ := LayAt_mk.2 ⟨hi, hk.grows ((Grows.refl _).alloc _)⟩
    rw [World.size_alloc] at hl
    exact (hl.same (exc_set4 _ _ _ _)).unexc
end Go.Proofs.Ytbobpgegkmcapaa

namespace Go.Proofs.Ytbobpgegkmcapaa
open Go.RowKit

set_option maxRecDepth 100000 in
set_option maxHeartbeats 8000000 in
theorem rsplit_any (pane kind fresh : Int) (L : Lay) : okTree L = true → (panesL L).length ≤ 400 → ∀ (S : Nat → Prop) (vk vw : Value) (w : World), (∀ b, w.heap.size ≤ b → S b) → LayAt S w L vk vw → Calls Try.prog 50 #[.agg #[.int .i64 L.kind, .int .i64 L.pane, vk, vw], .int .i64 pane, .int .i64 kind, .int .i64 fresh] w (fun e w' => LRes S w w' (rsplitL pane kind fresh L) e) := by
  induction L using Lay.ind with | h k p ks ws ih => ?_
  intro hok hn S vk vw w hS h
  by_cases hk : k = 1
  · have hf := leaf_of hok hk
    obtain ⟨rfl, rfl, rfl⟩ : k = 1 ∧ ks = [] ∧ ws = [] := by
      unfold leafL at hf
      injection hf with e1 e2 e3 e4
      exact ⟨e1, e3, e4⟩
    obtain ⟨a, cap, rfl, -⟩ := h.kids.shape rfl
    obtain ⟨wa, wc, rfl, -⟩ := h.ints.shape rfl
    rw [rsplitL_mk, if_pos rfl]
    by_cases hp : p = pane
    · rw [if_pos hp]
      exact rsplit_leaf2 p pane kind fresh (by simpa using hp) _ _ _ _ w hS
    · rw [if_neg hp]
      exact rsplit_leaf1 p pane kind fresh (by simpa using hp) _ _ _ _ w h
  have kk : (k == 1) = false := by simpa using hk
  obtain ⟨-, -, -, hwl, -, -, hkok⟩ := split_facts hok hk
  have hn' := hn
  rw [panesL_mk, if_neg hk] at hn'
  have hkl : ∀ x ∈ ks, (panesL x).length ≤ 400 := fun x hx => by have := len_mem hx; omega
  have hkn : ks.length ≤ 400 := by have := len_kids (ks := ks) hkok; omega
  rw [rsplitL_mk, if_neg hk]
  obtain ⟨O, hO⟩ : ∃ O : Nat → Lay, ∀ m, O m = outS pane kind fresh k ((ks.zip ws).take m) := ⟨_, fun _ => rfl⟩
  have HW := Lib.hid fun (m : Nat) (hm : m ≤ ks.length) => (show Wid (O m) 900 by rw [hO]; exact wid_le (wid_outS pane kind fresh hok hk m hm) (by have := take_panes ks m; omega))
  have HWX := Lib.hid fun (x : Lay) (hx : x ∈ ks) => (show Wid x 1000 from wid_le (wid_ok (hkok x hx)) (by have := hkl x hx; omega))
  have HWR := Lib.hid fun (x : Lay) (hx : x ∈ ks) => (show Wid (rsplitL pane kind fresh x) 1000 from wid_le (wid_split pane kind fresh x (hkok x hx)) (by have := hkl x hx; omega))
  have HLF := Lib.hid fun (x : Lay) (hx : x ∈ ks) (h1 : x.kind = 1) => (show Wid x 1 by rw [leaf_of (hkok x hx) h1]; exact wid_le (wid_leaf _) (by omega))
  have HHD := Lib.hid fun (m : Nat) => (show (O m).kind = k ∧ (O m).pane = 0 by rw [hO]; exact outS_head _ _ _ _ _)
  have HSN := Lib.hid fun (m : Nat) (x : Lay) (y : Int) (hx : ks[m]? = some x) (hy : ws[m]? = some y) => (show O (m + 1) = stepS pane kind fresh k (O m) x (rsplitL pane kind fresh x) y by rw [hO, hO, take_snoc (zip_at hx hy), outS_snoc])
  have HO0 := Lib.hid (show O 0 = .mk k 0 [] [] by rw [hO]; rfl)
  have HON := Lib.hid (show O ks.length = outS pane kind fresh k (ks.zip ws) by rw [hO, List.take_of_length_le (by rw [List.length_zip]; omega)])
  rw [← HON.out]
  obtain ⟨a, cap, G, rfl, hcap, hmx, hin⟩ := h.lt.kids.open_ rfl
  obtain ⟨wa, wc, rfl, -, -, hiw⟩ := h.lt.ints.open_ rfl
  dsimp only [Lay.kids, Lay.ws, Lay.kind, Lay.pane] at hcap hmx hin hiw h ⊢
  have Hin := Lib.hid hin
  have Hiw := Lib.hid hiw
  have HI := Lib.hid fun (x : Lay) (hx : x ∈ ks) => ih x hx (hkok x hx) (hkl x hx)
  have HS := Lib.hid hS
  have HWL := Lib.hid hwl
  clear ih hok hn hS h hkok hin hiw hkl hn' hO hk
  have HWN := Lib.hid hwl
  rw [hwl]
  clear hwl
  go_enter Try.func50, Try.ntmps50
  go_upto_region 6 with fail
  refine abs_worldM (fun W => Grows w W ∧ Blk W w.heap.size 25 #[.int .i64 k, .int .i64 p, .slice a ks.length cap, .slice wa ks.length wc] ∧ Blk W (w.heap.size + 1) 25 #[.int .i64 0, .int .i64 0, .slice none 0 0, .slice none 0 0] ∧ Blk W (w.heap.size + 1 + 1) 25 #[.int .i64 k, .int .i64 0, .slice none 0 0, .slice none 0 0]) (boxes3 _ _ _ _) ?_
  rintro W0 ⟨hg0, hb0, hb1, hbo⟩
  have HB0 := Lib.hid hb0
  have HB1 := Lib.hid hb1
  have HBO := Lib.hid hbo
  have HG0 := Lib.hid hg0
  clear hb0 hb1 hbo hg0
  go_wp2_with fail
  go_loopw [10] (fun i wr => ∃ (m : Nat) (wv : World) (ra rb : Option Addr) (yn rc zn rd : Nat), wv = wr ∧ m ≤ ks.length ∧ i = .int .i64 m ∧ LayAt (But3 w.heap.size S) wv (O m) (.slice ra yn rc) (.slice rb zn rd) ∧ Grows w wv ∧ Blk wv w.heap.size 25 #[.int .i64 k, .int .i64 p, .slice a ks.length cap, .slice wa ks.length wc] ∧ Blk wv (w.heap.size + 1) 25 #[.int .i64 0, .int .i64 0, .slice none 0 0, .slice none 0 0] ∧ Blk wv (w.heap.size + 1 + 1) 25 #[.int .i64 k, .int .i64 0, .slice ra yn rc, .slice rb zn rd]) (fun i _ => ks.length - (intOf i).toNat)
  case atStart => exact ⟨0, _, none, none, 0, 0, 0, 0, rfl, Nat.zero_le _, rfl, by rw [HO0.out]; exact LayAt_mk.2 ⟨IntsAt.nil _ _ _ _, KidsAt.nil _ _ _ _⟩, HG0.out, HB0.out, HB1.out, HBO.out⟩
  case round =>
    clear HB0 HB1 HBO HG0 W0
    obtain ⟨m, wv, ra, rb, yn, rc, zn, rd, rfl, hm, rfl, hlo, hg, hb0, hb1, hbo⟩ := hrel
    have HLO := Lib.hid hlo
    have HG := Lib.hid hg
    have HB0 := Lib.hid hb0
    have HB1 := Lib.hid hb1
    have HBO := Lib.hid hbo
    obtain ⟨a0, a1, a2, a3⟩ := hb0.four
    obtain ⟨b0, b1, b2, b3⟩ := hbo.four
    have hl0 := hb0.lt
    have hlob := hbo.lt
    clear hlo hb0 hb1 hbo
    by_cases hlt : m < ks.length
    · obtain ⟨b, off, x, ka, kn, kc, xa, xn, xc, rfl, hb, hbn, hx, hmem, -, -, e0, e1, e4, e3, hL⟩ := (Hin.out.grows hg).at_ hlt
      obtain ⟨bw, ow, y, rfl, hbw, hbwn, hy, -, ew⟩ := (Hiw.out.grows hg).at_ (show m < ws.length from HWN.out ▸ hlt)
      have HSNX := Lib.hid (HSN.out m x y hx hy)
      have hLx : LayAt (But3 w.heap.size S) wv x (.slice ka kn kc) (.slice xa xn xc) := hL.mono fun b _ hb => ⟨hb.1, .inl hb.2⟩
      have HWX' := Lib.hid (HWX.out x hmem)
      have HWR' := Lib.hid (HWR.out x hmem)
      have HIX := Lib.hid (HI.out x hmem)
      have HLFX := Lib.hid (HLF.out x hmem)
      have HWM := Lib.hid (HW.out m hm)
      have HLX := Lib.hid hLx
      clear hg hx hmem hL hy hLx
      go_upto_region 10 with fail
      refine abs_worldM (fun W => Grows wv W ∧ Blk W wv.heap.size 25 #[.int .i64 x.kind, .int .i64 x.pane, .slice ka kn kc, .slice xa xn xc]) ⟨(by repeat' (first | (with_reducible exact Grows.refl _) | (with_reducible refine Grows.alloc ?_ _) | (with_reducible refine Grows.drew ?_) | (with_reducible refine Grows.ext ?_ _ _))), Blk.new (by simp)⟩ ?_
      obtain ⟨pk, hpk⟩ : ∃ z, wv.heap.size = z := ⟨_, rfl⟩
      rw [hpk]
      rintro W1 ⟨hg1, hbk⟩
      have hpk2 : w.heap.size + 3 ≤ pk := by omega
      have ew1 := (hg1.cellOf hbw).trans ew
      have hbw1 := Nat.lt_of_lt_of_le hbw hg1.size
      have HEW := Lib.hid (And.intro hbw1 ew1)
      have HG1 := Lib.hid (HG.out.trans hg1)
      have HA0 := Lib.hid (HB0.out.grows hg1)
      have HA1 := Lib.hid (HB1.out.grows hg1)
      have HAO := Lib.hid (HBO.out.grows hg1)
      have HAK := Lib.hid hbk
      have HO1 := Lib.hid (HLO.out.grows hg1)
      have HX1 := Lib.hid (HLX.out.grows hg1)
      obtain ⟨k0, k1, -, -⟩ := hbk.four
      obtain ⟨a0', -, -, -⟩ := HA0.out.four
      have hlk := hbk.lt
      have hl0' := HA0.out.lt
      have hz1 : w.heap.size + 3 ≤ W1.heap.size := by omega
      clear hg1 hbk ew ew1 hbw hbw1 e0 e1 e4 e3 hb a0 a1 a2 a3 b0 b1 b2 b3 hl0 hlob HLO HG HB0 HB1 HBO HLX
      by_cases hc : x.kind = 1 ∧ x.pane = pane ∧ k = kind
      · have c1 : (x.kind == 1) = true := by simpa using hc.1
        have c2 : (x.pane == pane) = true := by simpa using hc.2.1
        have c3 : (k == kind) = true := by simpa using hc.2.2
        have HST := Lib.hid (show O (m + 1) = addL (addL (O m) x y) (leafL fresh) y by rw [HSNX.out, stepS, if_pos hc])
        have HWM2 := Lib.hid (wid_le (wid_add (g := y) HWM.out (HLFX.out hc.1) (Nat.le_refl 1)) (by omega) : Wid (addL (O m) x y) 1000)
        clear hc
        have HADD := Lib.hid fun W (g : Grows W1 W) => radd_k (O m) x y (HHD.out m).1 (HHD.out m).2 rfl rfl _ _ _ _ W (but3_fresh HS.out (by have := g.size; omega)) (HO1.out.grows g) (HX1.out.grows g) (wid_le HWM.out (by omega)) HWX'.out
        go_upto_region 11 with fail
        have HFS458 := Lib.hid fun w' (hSw : Same (fun _ => True) W1 w') => And.intro ((HA0.out.same hSw trivial).four) (And.intro ((HAO.out.same hSw trivial).four) (And.intro ((HAK.out.same hSw trivial).four) (And.intro ((hSw.cell HEW.out.1 trivial).trans HEW.out.2) (And.intro ((HA0.out.same hSw trivial).lt) (And.intro ((HAO.out.same hSw trivial).lt) (And.intro ((HAK.out.same hSw trivial).lt) (Nat.lt_of_lt_of_le HEW.out.1 hSw.size)))))))
        have hgS := Grows.refl W1
        refine wp_region_B [8] (fun w' => Same (fun b => b ≠ w.heap.size + 1 + 1) W1 w') (fun w' => Same (fun _ => True) W1 w') (by kernel_rfl) ⟨Grows.same (hgS.trans (by repeat' (first | (with_reducible exact hgc) | (with_reducible exact Grows.refl _) | (with_reducible refine Grows.alloc ?_ _) | (with_reducible refine Grows.drew ?_) | (with_reducible refine Grows.ext ?_ _ _)))) _, Grows.same (hgS.trans (by repeat' (first | (with_reducible exact hgc) | (with_reducible exact Grows.refl _) | (with_reducible refine Grows.alloc ?_ _) | (with_reducible refine Grows.drew ?_) | (with_reducible refine Grows.ext ?_ _ _)))) _⟩ (fun hHeld => ?_)
        refine abs_anyB (fun W' => Grows W1 W' ∧ True) ⟨(by repeat' (first | (with_reducible exact hgc) | (with_reducible exact Grows.refl _) | (with_reducible refine Grows.alloc ?_ _) | (with_reducible refine Grows.drew ?_) | (with_reducible refine Grows.ext ?_ _ _))), trivial⟩ ?_
        clear hHeld
        rintro X459 ⟨hgn, hex⟩
        have hgS := hgS.trans hgn
        have hsS := hgS.size
        clear hgn hex
        have hHeld := And.intro (Grows.same hgS (fun b => b ≠ w.heap.size + 1 + 1)) (Grows.same hgS (fun _ => True))
        refine anyB_take (i := 0) (v := ?v460_0) rfl (by kernel_rfl) (by kernel_rfl) (by kernel_rfl) (by kernel_rfl) (fun _ _ _ h => h) (Or.inl ⟨by kernel_rfl, ?y460_0⟩) (by kernel_rfl) hHeld ?r460_0
        case y460_0 => ((rintro w ⟨hTw, hSw⟩; obtain ⟨⟨a0, a1, a2, a3⟩, ⟨b0, b1, b2, b3⟩, ⟨k0, k1, k2, k3⟩, ew, hl0, hlo, hlk, hbw⟩ := HFS458.out _ hSw; clear hSw hTw; go_simp); (try go_ints); (try with_reducible rfl))
        try simp only [Act.put, List.getElem_toArray, List.getElem_cons_zero, List.setIfInBounds_toArray, List.set_cons_zero, List.set_cons_succ]
        refine anyB_take (i := 1) (v := ?v461_1) rfl (by kernel_rfl) (by kernel_rfl) (by kernel_rfl) (by kernel_rfl) (fun _ _ _ h => h) (Or.inl ⟨by kernel_rfl, ?y461_1⟩) (by kernel_rfl) hHeld ?r461_1
        case y461_1 => ((rintro w ⟨hTw, hSw⟩; obtain ⟨⟨a0, a1, a2, a3⟩, ⟨b0, b1, b2, b3⟩, ⟨k0, k1, k2, k3⟩, ew, hl0, hlo, hlk, hbw⟩ := HFS458.out _ hSw; clear hSw hTw; go_simp); (try go_ints); (try with_reducible rfl))
        try simp only [Act.put, List.getElem_toArray, List.getElem_cons_succ, List.getElem_cons_zero, List.setIfInBounds_toArray, List.set_cons_zero, List.set_cons_succ]
        refine anyB_take (i := 2) (v := ?v462_2) rfl (by kernel_rfl) (by kernel_rfl) (by kernel_rfl) (by kernel_rfl) (fun _ _ _ h => h) (Or.inl ⟨by kernel_rfl, ?y462_2⟩) (by kernel_rfl) hHeld ?r462_2
        case y462_2 => ((rintro w ⟨hTw, hSw⟩; obtain ⟨⟨a0, a1, a2, a3⟩, ⟨b0, b1, b2, b3⟩, ⟨k0, k1, k2, k3⟩, ew, hl0, hlo, hlk, hbw⟩ := HFS458.out _ hSw; clear hSw hTw; go_simp); (try go_ints); (try with_reducible rfl))
        try simp only [Act.put, List.getElem_toArray, List.getElem_cons_succ, List.getElem_cons_zero, List.setIfInBounds_toArray, List.set_cons_zero, List.set_cons_succ]
        refine anyB_take (i := 3) (v := ?v463_3) rfl (by kernel_rfl) (by kernel_rfl) (by kernel_rfl) (by kernel_rfl) (fun _ _ _ h => h) (Or.inl ⟨by kernel_rfl, ?y463_3⟩) (by kernel_rfl) hHeld ?r463_3
        case y463_3 => ((rintro w ⟨hTw, hSw⟩; obtain ⟨⟨a0, a1, a2, a3⟩, ⟨b0, b1, b2, b3⟩, ⟨k0, k1, k2, k3⟩, ew, hl0, hlo, hlk, hbw⟩ := HFS458.out _ hSw; clear hSw hTw; go_simp); (try go_ints); (try with_reducible rfl))
        try simp only [Act.put, List.getElem_toArray, List.getElem_cons_succ, List.getElem_cons_zero, List.setIfInBounds_toArray, List.set_cons_zero, List.set_cons_succ]
        refine anyB_take (i := 4) (v := ?v464_4) rfl (by kernel_rfl) (by kernel_rfl) (by kernel_rfl) (by kernel_rfl) (fun _ _ _ h => h) (Or.inl ⟨by kernel_rfl, ?y464_4⟩) (by kernel_rfl) hHeld ?r464_4
        case y464_4 => ((rintro w ⟨hTw, hSw⟩; obtain ⟨⟨a0, a1, a2, a3⟩, ⟨b0, b1, b2, b3⟩, ⟨k0, k1, k2, k3⟩, ew, hl0, hlo, hlk, hbw⟩ := HFS458.out _ hSw; clear hSw hTw; go_simp); (try go_ints); (try with_reducible rfl))
        try simp only [Act.put, List.getElem_toArray, List.getElem_cons_succ, List.getElem_cons_zero, List.setIfInBounds_toArray, List.set_cons_zero, List.set_cons_succ]
        refine anyB_take (i := 5) (v := ?v465_5) rfl (by kernel_rfl) (by kernel_rfl) (by kernel_rfl) (by kernel_rfl) (fun _ _ _ h => h) (Or.inl ⟨by kernel_rfl, ?y465_5⟩) (by kernel_rfl) hHeld ?r465_5
        case y465_5 => ((rintro w ⟨hTw, hSw⟩; obtain ⟨⟨a0, a1, a2, a3⟩, ⟨b0, b1, b2, b3⟩, ⟨k0, k1, k2, k3⟩, ew, hl0, hlo, hlk, hbw⟩ := HFS458.out _ hSw; clear hSw hTw; go_simp); (try go_ints); (try with_reducible rfl))
        try simp only [Act.put, List.getElem_toArray, List.getElem_cons_succ, List.getElem_cons_zero, List.setIfInBounds_toArray, List.set_cons_zero, List.set_cons_succ]
        refine anyB_take (i := 6) (v := ?v466_6) rfl (by kernel_rfl) (by kernel_rfl) (by kernel_rfl) (by kernel_rfl) (fun _ _ _ h => h) (Or.inl ⟨by kernel_rfl, ?y466_6⟩) (by kernel_rfl) hHeld ?r466_6
        case y466_6 => ((rintro w ⟨hTw, hSw⟩; obtain ⟨⟨a0, a1, a2, a3⟩, ⟨b0, b1, b2, b3⟩, ⟨k0, k1, k2, k3⟩, ew, hl0, hlo, hlk, hbw⟩ := HFS458.out _ hSw; clear hSw hTw; go_simp); (try go_ints); (try with_reducible rfl))
        try simp only [Act.put, List.getElem_toArray, List.getElem_cons_succ, List.getElem_cons_zero, List.setIfInBounds_toArray, List.set_cons_zero, List.set_cons_succ]
        refine anyB_ready (i := 7) (by kernel_rfl) rfl (fun K hK => ?_)
        simp only [List.getElem_toArray, List.getElem_cons_succ, List.getElem_cons_zero]
        go_simp
        (go_at_call 76; (go_must (with_reducible refine (HADD.out _ hgS).mono ?_)); rintro e w8 ⟨ka8, n8, kc8, wa8, m8, wc8, rfl, hl8, hgc⟩)
        refine hK.out _ _ ⟨?_, ?_⟩ ?_
        · ((try dsimp only); exact Grows.same (hgS.trans (by repeat' (first | (with_reducible exact hgc) | (with_reducible exact Grows.refl _) | (with_reducible refine Grows.alloc ?_ _) | (with_reducible refine Grows.drew ?_) | (with_reducible refine Grows.ext ?_ _ _)))) _)
        · ((try dsimp only); exact Grows.same (hgS.trans (by repeat' (first | (with_reducible exact hgc) | (with_reducible exact Grows.refl _) | (with_reducible refine Grows.alloc ?_ _) | (with_reducible refine Grows.drew ?_) | (with_reducible refine Grows.ext ?_ _ _)))) _)
        clear hK K hHeld
        intro hHeld
        try simp only [Act.put, List.getElem_toArray, List.getElem_cons_succ, List.getElem_cons_zero, List.setIfInBounds_toArray, List.set_cons_zero, List.set_cons_succ]
        refine abs_anyB (fun W' => Grows X459 W' ∧ LayAt (But3 w.heap.size S) W' (addL (O m) x y) (.slice ka8 n8 kc8) (.slice wa8 m8 wc8)) ⟨(by repeat' (first | (with_reducible exact hgc) | (with_reducible exact Grows.refl _) | (with_reducible refine Grows.alloc ?_ _) | (with_reducible refine Grows.drew ?_) | (with_reducible refine Grows.ext ?_ _ _))), hl8⟩ ?_
        clear hHeld
        rintro X467 ⟨hgn, hex⟩
        have HL8 := Lib.hid hex
        have hgS := hgS.trans hgn
        have hsS := hgS.size
        clear hgn hex
        have hHeld := And.intro (Grows.same hgS (fun b => b ≠ w.heap.size + 1 + 1)) (Grows.same hgS (fun _ => True))
        refine anyB_over (i := 8) (by kernel_rfl) rfl (by kernel_rfl) (fun K hK => ?_)
        simp only [List.getElem_toArray, List.getElem_cons_succ, List.getElem_cons_zero]
        obtain ⟨b0, b1, b2, b3⟩ := (HAO.out.grows hgS).four
        obtain ⟨f0, f1, f2, f3⟩ := (HAO.out.grows hgS).four'
        have hlo := (HAO.out.grows hgS).lt
        go_simp
        skip
        refine hK.out _ _ ?_ ?_
        · ((try dsimp only); exact (by repeat' (first | (with_reducible exact hT8) | (with_reducible exact Grows.same hgS _) | (with_reducible exact Grows.same (hgS.trans hgc) _) | (with_reducible refine Same.trans ?_ (same_set (fun h => Ne.irrefl h))))))
        clear hK K hHeld
        intro hHeld
        try simp only [Act.put, List.getElem_toArray, List.getElem_cons_succ, List.getElem_cons_zero, List.setIfInBounds_toArray, List.set_cons_zero, List.set_cons_succ]
        refine anyB_done (by kernel_rfl) ?_ _
        try clear hHeld
        refine abs_exit (fun W => Grows w W ∧ LayAt (But3 w.heap.size S) W (addL (O m) x y) (.slice ka8 n8 kc8) (.slice wa8 m8 wc8) ∧ Blk W w.heap.size 25 #[.int .i64 k, .int .i64 p, .slice (some ⟨b, off, none⟩) ks.length cap, .slice (some ⟨bw, ow, none⟩) ks.length wc] ∧ Blk W (w.heap.size + 1) 25 #[.int .i64 0, .int .i64 0, .slice none 0 0, .slice none 0 0] ∧ Blk W (w.heap.size + 1 + 1) 25 #[.int .i64 k, .int .i64 0, .slice ka8 n8 kc8, .slice wa8 m8 wc8] ∧ Blk W pk 25 #[.int .i64 x.kind, .int .i64 x.pane, .slice ka kn kc, .slice xa xn xc] ∧ Same (fun b => b ≠ w.heap.size + 1 + 1) W1 W) ⟨(HG1.out.trans hgS).set4 (by omega) _ _ _ _, HL8.out.same (but3_set4 (by omega) _ _ _ _), (((HA0.out.grows hgS).other (by omega)).other (by omega)).other (by omega) |>.other (by omega), (((HA1.out.grows hgS).other (by omega)).other (by omega)).other (by omega) |>.other (by omega), (HAO.out.grows hgS).set4, (((HAK.out.grows hgS).other (by omega)).other (by omega)).other (by omega) |>.other (by omega), (Grows.same hgS _).trans ((((same_set (fun h => h rfl)).trans (same_set (fun h => h rfl))).trans (same_set (fun h => h rfl))).trans (same_set (fun h => h rfl)))⟩ ?_
        rintro W2 ⟨hg2, hl2, hb2, hb3, hb4, hb5, hs12⟩
        have HG1 := Lib.hid hg2
        have HO1 := Lib.hid hl2
        have HA0 := Lib.hid hb2
        have HA1 := Lib.hid hb3
        have HAO := Lib.hid hb4
        have HAK := Lib.hid hb5
        have HEW := Lib.hid (And.intro (Nat.lt_of_lt_of_le HEW.out.1 hs12.size) ((hs12.cell HEW.out.1 (by show bw ≠ _; omega)).trans HEW.out.2))
        have hz2 : w.heap.size + 3 ≤ W2.heap.size := by have := hs12.size; omega
        have HADD := Lib.hid fun W (g : Grows W2 W) => radd_k (k' := 1) (p' := fresh) (addL (O m) x y) (leafL fresh) y ((addL_head _ _ _).1.trans (HHD.out m).1) ((addL_head _ _ _).2.trans (HHD.out m).2) rfl rfl _ _ _ _ W (but3_fresh HS.out (by have := g.size; omega)) (HO1.out.grows g) (leaf_lay _ _ _) HWM2.out (wid_le (wid_leaf _) (by omega))
        go_upto_region 12 with fail
        have HFS468 := Lib.hid fun w' (hSw : Same (fun _ => True) W2 w') => And.intro ((HA0.out.same hSw trivial).four) (And.intro ((HAO.out.same hSw trivial).four) (And.intro ((HAK.out.same hSw trivial).four) (And.intro ((hSw.cell HEW.out.1 trivial).trans HEW.out.2) (And.intro ((HA0.out.same hSw trivial).lt) (And.intro ((HAO.out.same hSw trivial).lt) (And.intro ((HAK.out.same hSw trivial).lt) (Nat.lt_of_lt_of_le HEW.out.1 hSw.size)))))))
        have hgS := Grows.refl W2
        refine wp_region_B [9] (fun w' => Same (fun b => b ≠ w.heap.size + 1 + 1) W2 w') (fun w' => Same (fun _ => True) W2 w') (by kernel_rfl) ⟨Grows.same (hgS.trans (by repeat' (first | (with_reducible exact hgc) | (with_reducible exact Grows.refl _) | (with_reducible refine Grows.alloc ?_ _) | (with_reducible refine Grows.drew ?_) | (with_reducible refine Grows.ext ?_ _ _)))) _, Grows.same (hgS.trans (by repeat' (first | (with_reducible exact hgc) | (with_reducible exact Grows.refl _) | (with_reducible refine Grows.alloc ?_ _) | (with_reducible refine Grows.drew ?_) | (with_reducible refine Grows.ext ?_ _ _)))) _⟩ (fun hHeld => ?_)
        refine abs_anyB (fun W' => Grows W2 W' ∧ True) ⟨(by repeat' (first | (with_reducible exact hgc) | (with_reducible exact Grows.refl _) | (with_reducible refine Grows.alloc ?_ _) | (with_reducible refine Grows.drew ?_) | (with_reducible refine Grows.ext ?_ _ _))), trivial⟩ ?_
        clear hHeld
        rintro X469 ⟨hgn, hex⟩
        have hgS := hgS.trans hgn
        have hsS := hgS.size
        clear hgn hex
        have hHeld := And.intro (Grows.same hgS (fun b => b ≠ w.heap.size + 1 + 1)) (Grows.same hgS (fun _ => True))
        refine anyB_take (i := 0) (v := ?v470_0) rfl (by kernel_rfl) (by kernel_rfl) (by kernel_rfl) (by kernel_rfl) (fun _ _ _ h => h) (Or.inl ⟨by kernel_rfl, ?y470_0⟩) (by kernel_rfl) hHeld ?r470_0
        case y470_0 => ((rintro w ⟨hTw, hSw⟩; obtain ⟨⟨a0, a1, a2, a3⟩, ⟨b0, b1, b2, b3⟩, ⟨k0, k1, k2, k3⟩, ew, hl0, hlo, hlk, hbw⟩ := HFS468.out _ hSw; clear hSw hTw; go_simp); (try go_ints); (try with_reducible rfl))
        try simp only [Act.put, List.getElem_toArray, List.getElem_cons_zero, List.setIfInBounds_toArray, List.set_cons_zero, List.set_cons_succ]
        refine anyB_take (i := 1) (v := ?v471_1) rfl (by kernel_rfl) (by kernel_rfl) (by kernel_rfl) (by kernel_rfl) (fun _ _ _ h => h) (Or.inl ⟨by kernel_rfl, ?y471_1⟩) (by kernel_rfl) hHeld ?r471_1
        case y471_1 => ((rintro w ⟨hTw, hSw⟩; obtain ⟨⟨a0, a1, a2, a3⟩, ⟨b0, b1, b2, b3⟩, ⟨k0, k1, k2, k3⟩, ew, hl0, hlo, hlk, hbw⟩ := HFS468.out _ hSw; clear hSw hTw; go_simp); (try go_ints); (try with_reducible rfl))
        try simp only [Act.put, List.getElem_toArray, List.getElem_cons_succ, List.getElem_cons_zero, List.setIfInBounds_toArray, List.set_cons_zero, List.set_cons_succ]
        refine anyB_take (i := 3) (v := ?v472_3) rfl (by kernel_rfl) (by kernel_rfl) (by kernel_rfl) (by kernel_rfl) (fun _ _ _ h => h) (Or.inl ⟨by kernel_rfl, ?y472_3⟩) (by kernel_rfl) hHeld ?r472_3
        case y472_3 => ((rintro w ⟨hTw, hSw⟩; obtain ⟨⟨a0, a1, a2, a3⟩, ⟨b0, b1, b2, b3⟩, ⟨k0, k1, k2, k3⟩, ew, hl0, hlo, hlk, hbw⟩ := HFS468.out _ hSw; clear hSw hTw; go_simp); (try go_ints); (try with_reducible rfl))
        try simp only [Act.put, List.getElem_toArray, List.getElem_cons_succ, List.getElem_cons_zero, List.setIfInBounds_toArray, List.set_cons_zero, List.set_cons_succ]
        refine anyB_take (i := 4) (v := ?v473_4) rfl (by kernel_rfl) (by kernel_rfl) (by kernel_rfl) (by kernel_rfl) (fun _ _ _ h => h) (Or.inl ⟨by kernel_rfl, ?y473_4⟩) (by kernel_rfl) hHeld ?r473_4
        case y473_4 => ((rintro w ⟨hTw, hSw⟩; obtain ⟨⟨a0, a1, a2, a3⟩, ⟨b0, b1, b2, b3⟩, ⟨k0, k1, k2, k3⟩, ew, hl0, hlo, hlk, hbw⟩ := HFS468.out _ hSw; clear hSw hTw; go_simp); (try go_ints); (try with_reducible rfl))
        try simp only [Act.put, List.getElem_toArray, List.getElem_cons_succ, List.getElem_cons_zero, List.setIfInBounds_toArray, List.set_cons_zero, List.set_cons_succ]
        refine anyB_take (i := 5) (v := ?v474_5) rfl (by kernel_rfl) (by kernel_rfl) (by kernel_rfl) (by kernel_rfl) (fun _ _ _ h => h) (Or.inl ⟨by kernel_rfl, ?y474_5⟩) (by kernel_rfl) hHeld ?r474_5
        case y474_5 => ((rintro w ⟨hTw, hSw⟩; obtain ⟨⟨a0, a1, a2, a3⟩, ⟨b0, b1, b2, b3⟩, ⟨k0, k1, k2, k3⟩, ew, hl0, hlo, hlk, hbw⟩ := HFS468.out _ hSw; clear hSw hTw; go_simp); (try go_ints); (try with_reducible rfl))
        try simp only [Act.put, List.getElem_toArray, List.getElem_cons_succ, List.getElem_cons_zero, List.setIfInBounds_toArray, List.set_cons_zero, List.set_cons_succ]
        refine anyB_take (i := 6) (v := ?v475_6) rfl (by kernel_rfl) (by kernel_rfl) (by kernel_rfl) (by kernel_rfl) (fun _ _ _ h => h) (Or.inl ⟨by kernel_rfl, ?y475_6⟩) (by kernel_rfl) hHeld ?r475_6
        case y475_6 => ((rintro w ⟨hTw, hSw⟩; obtain ⟨⟨a0, a1, a2, a3⟩, ⟨b0, b1, b2, b3⟩, ⟨k0, k1, k2, k3⟩, ew, hl0, hlo, hlk, hbw⟩ := HFS468.out _ hSw; clear hSw hTw; go_simp); (try go_ints); (try with_reducible rfl))
        try simp only [Act.put, List.getElem_toArray, List.getElem_cons_succ, List.getElem_cons_zero, List.setIfInBounds_toArray, List.set_cons_zero, List.set_cons_succ]
        refine anyB_take (i := 7) (v := ?v476_7) rfl (by kernel_rfl) (by kernel_rfl) (by kernel_rfl) (by kernel_rfl) (fun _ _ _ h => h) (Or.inl ⟨by kernel_rfl, ?y476_7⟩) (by kernel_rfl) hHeld ?r476_7
        case y476_7 => ((rintro w ⟨hTw, hSw⟩; obtain ⟨⟨a0, a1, a2, a3⟩, ⟨b0, b1, b2, b3⟩, ⟨k0, k1, k2, k3⟩, ew, hl0, hlo, hlk, hbw⟩ := HFS468.out _ hSw; clear hSw hTw; go_simp); (try go_ints); (try with_reducible rfl))
        try simp only [Act.put, List.getElem_toArray, List.getElem_cons_succ, List.getElem_cons_zero, List.setIfInBounds_toArray, List.set_cons_zero, List.set_cons_succ]
        refine anyB_ready (i := 2) (by kernel_rfl) rfl (fun K hK => ?_)
        simp only [List.getElem_toArray, List.getElem_cons_succ, List.getElem_cons_zero]
        go_simp
        (go_at_call 75; (go_must (with_reducible refine (rleaf_g _ _).mono ?_)); rintro e w7 ⟨rfl, hgc⟩)
        refine hK.out _ _ ⟨?_, ?_⟩ ?_
        · ((try dsimp only); exact Grows.same (hgS.trans (by repeat' (first | (with_reducible exact hgc) | (with_reducible exact Grows.refl _) | (with_reducible refine Grows.alloc ?_ _) | (with_reducible refine Grows.drew ?_) | (with_reducible refine Grows.ext ?_ _ _)))) _)
        · ((try dsimp only); exact Grows.same (hgS.trans (by repeat' (first | (with_reducible exact hgc) | (with_reducible exact Grows.refl _) | (with_reducible refine Grows.alloc ?_ _) | (with_reducible refine Grows.drew ?_) | (with_reducible refine Grows.ext ?_ _ _)))) _)
        clear hK K hHeld
        intro hHeld
        try simp only [Act.put, List.getElem_toArray, List.getElem_cons_succ, List.getElem_cons_zero, List.setIfInBounds_toArray, List.set_cons_zero, List.set_cons_succ]
        refine abs_anyB (fun W' => Grows X469 W' ∧ True) ⟨(by repeat' (first | (with_reducible exact hgc) | (with_reducible exact Grows.refl _) | (with_reducible refine Grows.alloc ?_ _) | (with_reducible refine Grows.drew ?_) | (with_reducible refine Grows.ext ?_ _ _))), trivial⟩ ?_
        clear hHeld
        rintro X477 ⟨hgn, hex⟩
        have hgS := hgS.trans hgn
        have hsS := hgS.size
        clear hgn hex
        have hHeld := And.intro (Grows.same hgS (fun b => b ≠ w.heap.size + 1 + 1)) (Grows.same hgS (fun _ => True))
        refine anyB_ready (i := 8) (by kernel_rfl) rfl (fun K hK => ?_)
        simp only [List.getElem_toArray, List.getElem_cons_succ, List.getElem_cons_zero]
        go_simp
        (go_at_call 76; (go_must (with_reducible refine (HADD.out _ hgS).mono ?_)); rintro e w8 ⟨ka8, n8, kc8, wa8, m8, wc8, rfl, hl8, hgc⟩)
        refine hK.out _ _ ⟨?_, ?_⟩ ?_
        · ((try dsimp only); exact Grows.same (hgS.trans (by repeat' (first | (with_reducible exact hgc) | (with_reducible exact Grows.refl _) | (with_reducible refine Grows.alloc ?_ _) | (with_reducible refine Grows.drew ?_) | (with_reducible refine Grows.ext ?_ _ _)))) _)
        · ((try dsimp only); exact Grows.same (hgS.trans (by repeat' (first | (with_reducible exact hgc) | (with_reducible exact Grows.refl _) | (with_reducible refine Grows.alloc ?_ _) | (with_reducible refine Grows.drew ?_) | (with_reducible refine Grows.ext ?_ _ _)))) _)
        clear hK K hHeld
        intro hHeld
        try simp only [Act.put, List.getElem_toArray, List.getElem_cons_succ, List.getElem_cons_zero, List.setIfInBounds_toArray, List.set_cons_zero, List.set_cons_succ]
        refine abs_anyB (fun W' => Grows X477 W' ∧ LayAt (But3 w.heap.size S) W' (addL (addL (O m) x y) (leafL fresh) y) (.slice ka8 n8 kc8) (.slice wa8 m8 wc8)) ⟨(by repeat' (first | (with_reducible exact hgc) | (with_reducible exact Grows.refl _) | (with_reducible refine Grows.alloc ?_ _) | (with_reducible refine Grows.drew ?_) | (with_reducible refine Grows.ext ?_ _ _))), hl8⟩ ?_
        clear hHeld
        rintro X478 ⟨hgn, hex⟩
        have HL8 := Lib.hid hex
        have hgS := hgS.trans hgn
        have hsS := hgS.size
        clear hgn hex
        have hHeld := And.intro (Grows.same hgS (fun b => b ≠ w.heap.size + 1 + 1)) (Grows.same hgS (fun _ => True))
        refine anyB_over (i := 9) (by kernel_rfl) rfl (by kernel_rfl) (fun K hK => ?_)
        simp only [List.getElem_toArray, List.getElem_cons_succ, List.getElem_cons_zero]
        obtain ⟨b0, b1, b2, b3⟩ := (HAO.out.grows hgS).four
        obtain ⟨f0, f1, f2, f3⟩ := (HAO.out.grows hgS).four'
        have hlo := (HAO.out.grows hgS).lt
        go_simp
        skip
        refine hK.out _ _ ?_ ?_
        · ((try dsimp only); exact (by repeat' (first | (with_reducible exact hT8) | (with_reducible exact Grows.same hgS _) | (with_reducible exact Grows.same (hgS.trans hgc) _) | (with_reducible refine Same.trans ?_ (same_set (fun h => Ne.irrefl h))))))
        clear hK K hHeld
        intro hHeld
        try simp only [Act.put, List.getElem_toArray, List.getElem_cons_succ, List.getElem_cons_zero, List.setIfInBounds_toArray, List.set_cons_zero, List.set_cons_succ]
        refine anyB_done (by kernel_rfl) ?_ _
        try clear hHeld
        refine abs_exit (fun W => Grows w W ∧ LayAt (But3 w.heap.size S) W (addL (addL (O m) x y) (leafL fresh) y) (.slice ka8 n8 kc8) (.slice wa8 m8 wc8) ∧ Blk W w.heap.size 25 #[.int .i64 k, .int .i64 p, .slice (some ⟨b, off, none⟩) ks.length cap, .slice (some ⟨bw, ow, none⟩) ks.length wc] ∧ Blk W (w.heap.size + 1) 25 #[.int .i64 0, .int .i64 0, .slice none 0 0, .slice none 0 0] ∧ Blk W (w.heap.size + 1 + 1) 25 #[.int .i64 k, .int .i64 0, .slice ka8 n8 kc8, .slice wa8 m8 wc8] ∧ Blk W pk 25 #[.int .i64 x.kind, .int .i64 x.pane, .slice ka kn kc, .slice xa xn xc]) ⟨(HG1.out.trans hgS).set4 (by omega) _ _ _ _, HL8.out.same (but3_set4 (by omega) _ _ _ _), (((HA0.out.grows hgS).other (by omega)).other (by omega)).other (by omega) |>.other (by omega), (((HA1.out.grows hgS).other (by omega)).other (by omega)).other (by omega) |>.other (by omega), (HAO.out.grows hgS).set4, (((HAK.out.grows hgS).other (by omega)).other (by omega)).other (by omega) |>.other (by omega)⟩ ?_
        rintro W5 ⟨hg5, hl5, hb5, hb6, hb7, -⟩
        go_wp2_with fail
        go_roundw
        case rel => exact ⟨m + 1, _, _, _, _, _, _, _, rfl, by omega, by go_num, by rw [HST.out]; exact hl5, hg5, hb5, hb6, hb7⟩
        case measure => simp [intOf]; omega
      · have HST := Lib.hid (show O (m + 1) = addL (O m) (rsplitL pane kind fresh x) y by rw [HSNX.out, stepS, if_neg hc])
        have HCS := Lib.hid fun W (g : Grows W1 W) => HIX.out (But3 w.heap.size S) _ _ W (but3_fresh HS.out (by have := g.size; omega)) (HX1.out.grows g)
        obtain ⟨z, hz⟩ : ∃ z, rsplitL pane kind fresh x = z := ⟨_, rfl⟩
        rw [hz] at HCS HST HWR'
        have HADD := Lib.hid fun W (g : Grows W1 W) ka kc wa wc (hl : LayAt (But3 w.heap.size S) W z (.slice ka z.kids.length kc) (.slice wa z.ws.length wc)) => radd_k (O m) z y (HHD.out m).1 (HHD.out m).2 rfl rfl _ _ _ _ W (but3_fresh HS.out (by have := g.size; omega)) (HO1.out.grows g) hl (wid_le HWM.out (by omega)) HWR'.out
        clear hz
        by_cases h1 : x.kind = 1
        · have c1 : (x.kind == 1) = true := by simpa using h1
          by_cases h2 : x.pane = pane
          · have c2 : (x.pane == pane) = true := by simpa using h2
            have c3 : (k == kind) = false := by simpa using fun h3 => hc ⟨h1, h2, h3⟩
            clear hc h1 h2
            go_upto_region 13 with fail
            have HFS479 := Lib.hid fun w' (hSw : Same (fun _ => True) W1 w') => And.intro ((HA0.out.same hSw trivial).four) (And.intro ((HAO.out.same hSw trivial).four) (And.intro ((HAK.out.same hSw trivial).four) (And.intro ((hSw.cell HEW.out.1 trivial).trans HEW.out.2) (And.intro ((HA0.out.same hSw trivial).lt) (And.intro ((HAO.out.same hSw trivial).lt) (And.intro ((HAK.out.same hSw trivial).lt) (Nat.lt_of_lt_of_le HEW.out.1 hSw.size)))))))
            have hgS := Grows.refl W1
            refine wp_region_B [12] (fun w' => Same (fun b => b ≠ w.heap.size + 1 + 1) W1 w') (fun w' => Same (fun _ => True) W1 w') (by kernel_rfl) ⟨Grows.same (hgS.trans (by repeat' (first | (with_reducible exact hgc) | (with_reducible exact Grows.refl _) | (with_reducible refine Grows.alloc ?_ _) | (with_reducible refine Grows.drew ?_) | (with_reducible refine Grows.ext ?_ _ _)))) _, Grows.same (hgS.trans (by repeat' (first | (with_reducible exact hgc) | (with_reducible exact Grows.refl _) | (with_reducible refine Grows.alloc ?_ _) | (with_reducible refine Grows.drew ?_) | (with_reducible refine Grows.ext ?_ _ _)))) _⟩ (fun hHeld => ?_)
            refine abs_anyB (fun W' => Grows W1 W' ∧ True) ⟨(by repeat' (first | (with_reducible exact hgc) | (with_reducible exact Grows.refl _) | (with_reducible refine Grows.alloc ?_ _) | (with_reducible refine Grows.drew ?_) | (with_reducible refine Grows.ext ?_ _ _))), trivial⟩ ?_
            clear hHeld
            rintro X480 ⟨hgn, hex⟩
            have hgS := hgS.trans hgn
            have hsS := hgS.size
            clear hgn hex
            have hHeld := And.intro (Grows.same hgS (fun b => b ≠ w.heap.size + 1 + 1)) (Grows.same hgS (fun _ => True))
            refine anyB_take (i := 0) (v := ?v481_0) rfl (by kernel_rfl) (by kernel_rfl) (by kernel_rfl) (by kernel_rfl) (fun _ _ _ h => h) (Or.inl ⟨by kernel_rfl, ?y481_0⟩) (by kernel_rfl) hHeld ?r481_0
            case y481_0 => ((rintro w ⟨hTw, hSw⟩; obtain ⟨⟨a0, a1, a2, a3⟩, ⟨b0, b1, b2, b3⟩, ⟨k0, k1, k2, k3⟩, ew, hl0, hlo, hlk, hbw⟩ := HFS479.out _ hSw; clear hSw hTw; go_simp); (try go_ints); (try with_reducible rfl))
            try simp only [Act.put, List.getElem_toArray, List.getElem_cons_zero, List.setIfInBounds_toArray, List.set_cons_zero, List.set_cons_succ]
            refine anyB_take (i := 1) (v := ?v482_1) rfl (by kernel_rfl) (by kernel_rfl) (by kernel_rfl) (by kernel_rfl) (fun _ _ _ h => h) (Or.inl ⟨by kernel_rfl, ?y482_1⟩) (by kernel_rfl) hHeld ?r482_1
            case y482_1 => ((rintro w ⟨hTw, hSw⟩; obtain ⟨⟨a0, a1, a2, a3⟩, ⟨b0, b1, b2, b3⟩, ⟨k0, k1, k2, k3⟩, ew, hl0, hlo, hlk, hbw⟩ := HFS479.out _ hSw; clear hSw hTw; go_simp); (try go_ints); (try with_reducible rfl))
            try simp only [Act.put, List.getElem_toArray, List.getElem_cons_succ, List.getElem_cons_zero, List.setIfInBounds_toArray, List.set_cons_zero, List.set_cons_succ]
            refine anyB_take (i := 2) (v := ?v483_2) rfl (by kernel_rfl) (by kernel_rfl) (by kernel_rfl) (by kernel_rfl) (fun _ _ _ h => h) (Or.inl ⟨by kernel_rfl, ?y483_2⟩) (by kernel_rfl) hHeld ?r483_2
            case y483_2 => ((rintro w ⟨hTw, hSw⟩; obtain ⟨⟨a0, a1, a2, a3⟩, ⟨b0, b1, b2, b3⟩, ⟨k0, k1, k2, k3⟩, ew, hl0, hlo, hlk, hbw⟩ := HFS479.out _ hSw; clear hSw hTw; go_simp); (try go_ints); (try with_reducible rfl))
            try simp only [Act.put, List.getElem_toArray, List.getElem_cons_succ, List.getElem_cons_zero, List.setIfInBounds_toArray, List.set_cons_zero, List.set_cons_succ]
            refine anyB_take (i := 3) (v := ?v484_3) rfl (by kernel_rfl) (by kernel_rfl) (by kernel_rfl) (by kernel_rfl) (fun _ _ _ h => h) (Or.inl ⟨by kernel_rfl, ?y484_3⟩) (by kernel_rfl) hHeld ?r484_3
            case y484_3 => ((rintro w ⟨hTw, hSw⟩; obtain ⟨⟨a0, a1, a2, a3⟩, ⟨b0, b1, b2, b3⟩, ⟨k0, k1, k2, k3⟩, ew, hl0, hlo, hlk, hbw⟩ := HFS479.out _ hSw; clear hSw hTw; go_simp); (try go_ints); (try with_reducible rfl))
            try simp only [Act.put, List.getElem_toArray, List.getElem_cons_succ, List.getElem_cons_zero, List.setIfInBounds_toArray, List.set_cons_zero, List.set_cons_succ]
            refine anyB_take (i := 4) (v := ?v485_4) rfl (by kernel_rfl) (by kernel_rfl) (by kernel_rfl) (by kernel_rfl) (fun _ _ _ h => h) (Or.inl ⟨by kernel_rfl, ?y485_4⟩) (by kernel_rfl) hHeld ?r485_4
            case y485_4 => ((rintro w ⟨hTw, hSw⟩; obtain ⟨⟨a0, a1, a2, a3⟩, ⟨b0, b1, b2, b3⟩, ⟨k0, k1, k2, k3⟩, ew, hl0, hlo, hlk, hbw⟩ := HFS479.out _ hSw; clear hSw hTw; go_simp); (try go_ints); (try with_reducible rfl))
            try simp only [Act.put, List.getElem_toArray, List.getElem_cons_succ, List.getElem_cons_zero, List.setIfInBounds_toArray, List.set_cons_zero, List.set_cons_succ]
            refine anyB_take (i := 6) (v := ?v486_6) rfl (by kernel_rfl) (by kernel_rfl) (by kernel_rfl) (by kernel_rfl) (fun _ _ _ h => h) (Or.inl ⟨by kernel_rfl, ?y486_6⟩) (by kernel_rfl) hHeld ?r486_6
            case y486_6 => ((rintro w ⟨hTw, hSw⟩; obtain ⟨⟨a0, a1, a2, a3⟩, ⟨b0, b1, b2, b3⟩, ⟨k0, k1, k2, k3⟩, ew, hl0, hlo, hlk, hbw⟩ := HFS479.out _ hSw; clear hSw hTw; go_simp); (try go_ints); (try with_reducible rfl))
            try simp only [Act.put, List.getElem_toArray, List.getElem_cons_succ, List.getElem_cons_zero, List.setIfInBounds_toArray, List.set_cons_zero, List.set_cons_succ]
            refine anyB_take (i := 7) (v := ?v487_7) rfl (by kernel_rfl) (by kernel_rfl) (by kernel_rfl) (by kernel_rfl) (fun _ _ _ h => h) (Or.inl ⟨by kernel_rfl, ?y487_7⟩) (by kernel_rfl) hHeld ?r487_7
            case y487_7 => ((rintro w ⟨hTw, hSw⟩; obtain ⟨⟨a0, a1, a2, a3⟩, ⟨b0, b1, b2, b3⟩, ⟨k0, k1, k2, k3⟩, ew, hl0, hlo, hlk, hbw⟩ := HFS479.out _ hSw; clear hSw hTw; go_simp); (try go_ints); (try with_reducible rfl))
            try simp only [Act.put, List.getElem_toArray, List.getElem_cons_succ, List.getElem_cons_zero, List.setIfInBounds_toArray, List.set_cons_zero, List.set_cons_succ]
            refine anyB_take (i := 8) (v := ?v488_8) rfl (by kernel_rfl) (by kernel_rfl) (by kernel_rfl) (by kernel_rfl) (fun _ _ _ h => h) (Or.inl ⟨by kernel_rfl, ?y488_8⟩) (by kernel_rfl) hHeld ?r488_8
            case y488_8 => ((rintro w ⟨hTw, hSw⟩; obtain ⟨⟨a0, a1, a2, a3⟩, ⟨b0, b1, b2, b3⟩, ⟨k0, k1, k2, k3⟩, ew, hl0, hlo, hlk, hbw⟩ := HFS479.out _ hSw; clear hSw hTw; go_simp); (try go_ints); (try with_reducible rfl))
            try simp only [Act.put, List.getElem_toArray, List.getElem_cons_succ, List.getElem_cons_zero, List.setIfInBounds_toArray, List.set_cons_zero, List.set_cons_succ]
            refine anyB_take (i := 9) (v := ?v489_9) rfl (by kernel_rfl) (by kernel_rfl) (by kernel_rfl) (by kernel_rfl) (fun _ _ _ h => h) (Or.inl ⟨by kernel_rfl, ?y489_9⟩) (by kernel_rfl) hHeld ?r489_9
            case y489_9 => ((rintro w ⟨hTw, hSw⟩; obtain ⟨⟨a0, a1, a2, a3⟩, ⟨b0, b1, b2, b3⟩, ⟨k0, k1, k2, k3⟩, ew, hl0, hlo, hlk, hbw⟩ := HFS479.out _ hSw; clear hSw hTw; go_simp); (try go_ints); (try with_reducible rfl))
            try simp only [Act.put, List.getElem_toArray, List.getElem_cons_succ, List.getElem_cons_zero, List.setIfInBounds_toArray, List.set_cons_zero, List.set_cons_succ]
            refine anyB_take (i := 10) (v := ?v490_10) rfl (by kernel_rfl) (by kernel_rfl) (by kernel_rfl) (by kernel_rfl) (fun _ _ _ h => h) (Or.inl ⟨by kernel_rfl, ?y490_10⟩) (by kernel_rfl) hHeld ?r490_10
            case y490_10 => ((rintro w ⟨hTw, hSw⟩; obtain ⟨⟨a0, a1, a2, a3⟩, ⟨b0, b1, b2, b3⟩, ⟨k0, k1, k2, k3⟩, ew, hl0, hlo, hlk, hbw⟩ := HFS479.out _ hSw; clear hSw hTw; go_simp); (try go_ints); (try with_reducible rfl))
            try simp only [Act.put, List.getElem_toArray, List.getElem_cons_succ, List.getElem_cons_zero, List.setIfInBounds_toArray, List.set_cons_zero, List.set_cons_succ]
            refine anyB_ready (i := 5) (by kernel_rfl) rfl (fun K hK => ?_)
            simp only [List.getElem_toArray, List.getElem_cons_succ, List.getElem_cons_zero]
            go_simp
            (go_at_call 50; (go_must (with_reducible refine (HCS.out _ hgS).mono ?_)); rintro e w7 hE; obtain ⟨ka7, kc7, wa7, wc7, rfl, hl7, hgc⟩ := hE.open_)
            refine hK.out _ _ ⟨?_, ?_⟩ ?_
            · ((try dsimp only); exact Grows.same (hgS.trans (by repeat' (first | (with_reducible exact hgc) | (with_reducible exact Grows.refl _) | (with_reducible refine Grows.alloc ?_ _) | (with_reducible refine Grows.drew ?_) | (with_reducible refine Grows.ext ?_ _ _)))) _)
            · ((try dsimp only); exact Grows.same (hgS.trans (by repeat' (first | (with_reducible exact hgc) | (with_reducible exact Grows.refl _) | (with_reducible refine Grows.alloc ?_ _) | (with_reducible refine Grows.drew ?_) | (with_reducible refine Grows.ext ?_ _ _)))) _)
            clear hK K hHeld
            intro hHeld
            try simp only [Act.put, List.getElem_toArray, List.getElem_cons_succ, List.getElem_cons_zero, List.setIfInBounds_toArray, List.set_cons_zero, List.set_cons_succ]
            refine abs_anyB (fun W' => Grows X480 W' ∧ LayAt (But3 w.heap.size S) W' z (.slice ka7 z.kids.length kc7) (.slice wa7 z.ws.length wc7)) ⟨(by repeat' (first | (with_reducible exact hgc) | (with_reducible exact Grows.refl _) | (with_reducible refine Grows.alloc ?_ _) | (with_reducible refine Grows.drew ?_) | (with_reducible refine Grows.ext ?_ _ _))), hl7⟩ ?_
            clear hHeld
            rintro X491 ⟨hgn, hex⟩
            have HL7 := Lib.hid hex
            have hgS := hgS.trans hgn
            have hsS := hgS.size
            clear hgn hex
            have hHeld := And.intro (Grows.same hgS (fun b => b ≠ w.heap.size + 1 + 1)) (Grows.same hgS (fun _ => True))
            refine anyB_ready (i := 11) (by kernel_rfl) rfl (fun K hK => ?_)
            simp only [List.getElem_toArray, List.getElem_cons_succ, List.getElem_cons_zero]
            go_simp
            (go_at_call 76; (go_must (with_reducible refine (HADD.out _ hgS _ _ _ _ HL7.out).mono ?_)); rintro e w8 ⟨ka8, n8, kc8, wa8, m8, wc8, rfl, hl8, hgc⟩)
            refine hK.out _ _ ⟨?_, ?_⟩ ?_
            · ((try dsimp only); exact Grows.same (hgS.trans (by repeat' (first | (with_reducible exact hgc) | (with_reducible exact Grows.refl _) | (with_reducible refine Grows.alloc ?_ _) | (with_reducible refine Grows.drew ?_) | (with_reducible refine Grows.ext ?_ _ _)))) _)
            · ((try dsimp only); exact Grows.same (hgS.trans (by repeat' (first | (with_reducible exact hgc) | (with_reducible exact Grows.refl _) | (with_reducible refine Grows.alloc ?_ _) | (with_reducible refine Grows.drew ?_) | (with_reducible refine Grows.ext ?_ _ _)))) _)
            clear hK K hHeld
            intro hHeld
            try simp only [Act.put, List.getElem_toArray, List.getElem_cons_succ, List.getElem_cons_zero, List.setIfInBounds_toArray, List.set_cons_zero, List.set_cons_succ]
            refine abs_anyB (fun W' => Grows X491 W' ∧ LayAt (But3 w.heap.size S) W' (addL (O m) z y) (.slice ka8 n8 kc8) (.slice wa8 m8 wc8)) ⟨(by repeat' (first | (with_reducible exact hgc) | (with_reducible exact Grows.refl _) | (with_reducible refine Grows.alloc ?_ _) | (with_reducible refine Grows.drew ?_) | (with_reducible refine Grows.ext ?_ _ _))), hl8⟩ ?_
            clear hHeld
            rintro X492 ⟨hgn, hex⟩
            have HL7 := Lib.hid (HL7.out.grows hgn)
            have HL8 := Lib.hid hex
            have hgS := hgS.trans hgn
            have hsS := hgS.size
            clear hgn hex
            have hHeld := And.intro (Grows.same hgS (fun b => b ≠ w.heap.size + 1 + 1)) (Grows.same hgS (fun _ => True))
            refine anyB_over (i := 12) (by kernel_rfl) rfl (by kernel_rfl) (fun K hK => ?_)
            simp only [List.getElem_toArray, List.getElem_cons_succ, List.getElem_cons_zero]
            obtain ⟨b0, b1, b2, b3⟩ := (HAO.out.grows hgS).four
            obtain ⟨f0, f1, f2, f3⟩ := (HAO.out.grows hgS).four'
            have hlo := (HAO.out.grows hgS).lt
            go_simp
            skip
            refine hK.out _ _ ?_ ?_
            · ((try dsimp only); exact (by repeat' (first | (with_reducible exact hT8) | (with_reducible exact Grows.same hgS _) | (with_reducible exact Grows.same (hgS.trans hgc) _) | (with_reducible refine Same.trans ?_ (same_set (fun h => Ne.irrefl h))))))
            clear hK K hHeld
            intro hHeld
            try simp only [Act.put, List.getElem_toArray, List.getElem_cons_succ, List.getElem_cons_zero, List.setIfInBounds_toArray, List.set_cons_zero, List.set_cons_succ]
            refine anyB_done (by kernel_rfl) ?_ _
            try clear hHeld
            refine abs_exit (fun W => Grows w W ∧ LayAt (But3 w.heap.size S) W (addL (O m) z y) (.slice ka8 n8 kc8) (.slice wa8 m8 wc8) ∧ Blk W w.heap.size 25 #[.int .i64 k, .int .i64 p, .slice (some ⟨b, off, none⟩) ks.length cap, .slice (some ⟨bw, ow, none⟩) ks.length wc] ∧ Blk W (w.heap.size + 1) 25 #[.int .i64 0, .int .i64 0, .slice none 0 0, .slice none 0 0] ∧ Blk W (w.heap.size + 1 + 1) 25 #[.int .i64 k, .int .i64 0, .slice ka8 n8 kc8, .slice wa8 m8 wc8] ∧ Blk W pk 25 #[.int .i64 x.kind, .int .i64 x.pane, .slice ka kn kc, .slice xa xn xc]) ⟨(HG1.out.trans hgS).set4 (by omega) _ _ _ _, HL8.out.same (but3_set4 (by omega) _ _ _ _), (((HA0.out.grows hgS).other (by omega)).other (by omega)).other (by omega) |>.other (by omega), (((HA1.out.grows hgS).other (by omega)).other (by omega)).other (by omega) |>.other (by omega), (HAO.out.grows hgS).set4, (((HAK.out.grows hgS).other (by omega)).other (by omega)).other (by omega) |>.other (by omega)⟩ ?_
            rintro W5 ⟨hg5, hl5, hb5, hb6, hb7, -⟩
            go_wp2_with fail
            go_roundw
            case rel => exact ⟨m + 1, _, _, _, _, _, _, _, rfl, by omega, by go_num, by rw [HST.out]; exact hl5, hg5, hb5, hb6, hb7⟩
            case measure => simp [intOf]; omega
          · have c2 : (x.pane == pane) = false := by simpa using h2
            clear hc h1 h2
            go_upto_region 13 with fail
            have HFS493 := Lib.hid fun w' (hSw : Same (fun _ => True) W1 w') => And.intro ((HA0.out.same hSw trivial).four) (And.intro ((HAO.out.same hSw trivial).four) (And.intro ((HAK.out.same hSw trivial).four) (And.intro ((hSw.cell HEW.out.1 trivial).trans HEW.out.2) (And.intro ((HA0.out.same hSw trivial).lt) (And.intro ((HAO.out.same hSw trivial).lt) (And.intro ((HAK.out.same hSw trivial).lt) (Nat.lt_of_lt_of_le HEW.out.1 hSw.size)))))))
            have hgS := Grows.refl W1
            refine wp_region_B [12] (fun w' => Same (fun b => b ≠ w.heap.size + 1 + 1) W1 w') (fun w' => Same (fun _ => True) W1 w') (by kernel_rfl) ⟨Grows.same (hgS.trans (by repeat' (first | (with_reducible exact hgc) | (with_reducible exact Grows.refl _) | (with_reducible refine Grows.alloc ?_ _) | (with_reducible refine Grows.drew ?_) | (with_reducible refine Grows.ext ?_ _ _)))) _, Grows.same (hgS.trans (by repeat' (first | (with_reducible exact hgc) | (with_reducible exact Grows.refl _) | (with_reducible refine Grows.alloc ?_ _) | (with_reducible refine Grows.drew ?_) | (with_reducible refine Grows.ext ?_ _ _)))) _⟩ (fun hHeld => ?_)
            refine abs_anyB (fun W' => Grows W1 W' ∧ True) ⟨(by repeat' (first | (with_reducible exact hgc) | (with_reducible exact Grows.refl _) | (with_reducible refine Grows.alloc ?_ _) | (with_reducible refine Grows.drew ?_) | (with_reducible refine Grows.ext ?_ _ _))), trivial⟩ ?_
            clear hHeld
            rintro X494 ⟨hgn, hex⟩
            have hgS := hgS.trans hgn
            have hsS := hgS.size
            clear hgn hex
            have hHeld := And.intro (Grows.same hgS (fun b => b ≠ w.heap.size + 1 + 1)) (Grows.same hgS (fun _ => True))
            refine anyB_take (i := 0) (v := ?v495_0) rfl (by kernel_rfl) (by kernel_rfl) (by kernel_rfl) (by kernel_rfl) (fun _ _ _ h => h) (Or.inl ⟨by kernel_rfl, ?y495_0⟩) (by kernel_rfl) hHeld ?r495_0
            case y495_0 => ((rintro w ⟨hTw, hSw⟩; obtain ⟨⟨a0, a1, a2, a3⟩, ⟨b0, b1, b2, b3⟩, ⟨k0, k1, k2, k3⟩, ew, hl0, hlo, hlk, hbw⟩ := HFS493.out _ hSw; clear hSw hTw; go_simp); (try go_ints); (try with_reducible rfl))
            try simp only [Act.put, List.getElem_toArray, List.getElem_cons_zero, List.setIfInBounds_toArray, List.set_cons_zero, List.set_cons_succ]
            refine anyB_take (i := 1) (v := ?v496_1) rfl (by kernel_rfl) (by kernel_rfl) (by kernel_rfl) (by kernel_rfl) (fun _ _ _ h => h) (Or.inl ⟨by kernel_rfl, ?y496_1⟩) (by kernel_rfl) hHeld ?r496_1
            case y496_1 => ((rintro w ⟨hTw, hSw⟩; obtain ⟨⟨a0, a1, a2, a3⟩, ⟨b0, b1, b2, b3⟩, ⟨k0, k1, k2, k3⟩, ew, hl0, hlo, hlk, hbw⟩ := HFS493.out _ hSw; clear hSw hTw; go_simp); (try go_ints); (try with_reducible rfl))
            try simp only [Act.put, List.getElem_toArray, List.getElem_cons_succ, List.getElem_cons_zero, List.setIfInBounds_toArray, List.set_cons_zero, List.set_cons_succ]
            refine anyB_take (i := 2) (v := ?v497_2) rfl (by kernel_rfl) (by kernel_rfl) (by kernel_rfl) (by kernel_rfl) (fun _ _ _ h => h) (Or.inl ⟨by kernel_rfl, ?y497_2⟩) (by kernel_rfl) hHeld ?r497_2
            case y497_2 => ((rintro w ⟨hTw, hSw⟩; obtain ⟨⟨a0, a1, a2, a3⟩, ⟨b0, b1, b2, b3⟩, ⟨k0, k1, k2, k3⟩, ew, hl0, hlo, hlk, hbw⟩ := HFS493.out _ hSw; clear hSw hTw; go_simp); (try go_ints); (try with_reducible rfl))
            try simp only [Act.put, List.getElem_toArray, List.getElem_cons_succ, List.getElem_cons_zero, List.setIfInBounds_toArray, List.set_cons_zero, List.set_cons_succ]
            refine anyB_take (i := 3) (v := ?v498_3) rfl (by kernel_rfl) (by kernel_rfl) (by kernel_rfl) (by kernel_rfl) (fun _ _ _ h => h) (Or.inl ⟨by kernel_rfl, ?y498_3⟩) (by kernel_rfl) hHeld ?r498_3
            case y498_3 => ((rintro w ⟨hTw, hSw⟩; obtain ⟨⟨a0, a1, a2, a3⟩, ⟨b0, b1, b2, b3⟩, ⟨k0, k1, k2, k3⟩, ew, hl0, hlo, hlk, hbw⟩ := HFS493.out _ hSw; clear hSw hTw; go_simp); (try go_ints); (try with_reducible rfl))
            try simp only [Act.put, List.getElem_toArray, List.getElem_cons_succ, List.getElem_cons_zero, List.setIfInBounds_toArray, List.set_cons_zero, List.set_cons_succ]
            refine anyB_take (i := 4) (v := ?v499_4) rfl (by kernel_rfl) (by kernel_rfl) (by kernel_rfl) (by kernel_rfl) (fun _ _ _ h => h) (Or.inl ⟨by kernel_rfl, ?y499_4⟩) (by kernel_rfl) hHeld ?r499_4
            case y499_4 => ((rintro w ⟨hTw, hSw⟩; obtain ⟨⟨a0, a1, a2, a3⟩, ⟨b0, b1, b2, b3⟩, ⟨k0, k1, k2, k3⟩, ew, hl0, hlo, hlk, hbw⟩ := HFS493.out _ hSw; clear hSw hTw; go_simp); (try go_ints); (try with_reducible rfl))
            try simp only [Act.put, List.getElem_toArray, List.getElem_cons_succ, List.getElem_cons_zero, List.setIfInBounds_toArray, List.set_cons_zero, List.set_cons_succ]
            refine anyB_take (i := 6) (v := ?v500_6) rfl (by kernel_rfl) (by kernel_rfl) (by kernel_rfl) (by kernel_rfl) (fun _ _ _ h => h) (Or.inl ⟨by kernel_rfl, ?y500_6⟩) (by kernel_rfl) hHeld ?r500_6
            case y500_6 => ((rintro w ⟨hTw, hSw⟩; obtain ⟨⟨a0, a1, a2, a3⟩, ⟨b0, b1, b2, b3⟩, ⟨k0, k1, k2, k3⟩, ew, hl0, hlo, hlk, hbw⟩ := HFS493.out _ hSw; clear hSw hTw; go_simp); (try go_ints); (try with_reducible rfl))
            try simp only [Act.put, List.getElem_toArray, List.getElem_cons_succ, List.getElem_cons_zero, List.setIfInBounds_toArray, List.set_cons_zero, List.set_cons_succ]
            refine anyB_take (i := 7) (v := ?v501_7) rfl (by kernel_rfl) (by kernel_rfl) (by kernel_rfl) (by kernel_rfl) (fun _ _ _ h => h) (Or.inl ⟨by kernel_rfl, ?y501_7⟩) (by kernel_rfl) hHeld ?r501_7
            case y501_7 => ((rintro w ⟨hTw, hSw⟩; obtain ⟨⟨a0, a1, a2, a3⟩, ⟨b0, b1, b2, b3⟩, ⟨k0, k1, k2, k3⟩, ew, hl0, hlo, hlk, hbw⟩ := HFS493.out _ hSw; clear hSw hTw; go_simp); (try go_ints); (try with_reducible rfl))
            try simp only [Act.put, List.getElem_toArray, List.getElem_cons_succ, List.getElem_cons_zero, List.setIfInBounds_toArray, List.set_cons_zero, List.set_cons_succ]
            refine anyB_take (i := 8) (v := ?v502_8) rfl (by kernel_rfl) (by kernel_rfl) (by kernel_rfl) (by kernel_rfl) (fun _ _ _ h => h) (Or.inl ⟨by kernel_rfl, ?y502_8⟩) (by kernel_rfl) hHeld ?r502_8
            case y502_8 => ((rintro w ⟨hTw, hSw⟩; obtain ⟨⟨a0, a1, a2, a3⟩, ⟨b0, b1, b2, b3⟩, ⟨k0, k1, k2, k3⟩, ew, hl0, hlo, hlk, hbw⟩ := HFS493.out _ hSw; clear hSw hTw; go_simp); (try go_ints); (try with_reducible rfl))
            try simp only [Act.put, List.getElem_toArray, List.getElem_cons_succ, List.getElem_cons_zero, List.setIfInBounds_toArray, List.set_cons_zero, List.set_cons_succ]
            refine anyB_take (i := 9) (v := ?v503_9) rfl (by kernel_rfl) (by kernel_rfl) (by kernel_rfl) (by kernel_rfl) (fun _ _ _ h => h) (Or.inl ⟨by kernel_rfl, ?y503_9⟩) (by kernel_rfl) hHeld ?r503_9
            case y503_9 => ((rintro w ⟨hTw, hSw⟩; obtain ⟨⟨a0, a1, a2, a3⟩, ⟨b0, b1, b2, b3⟩, ⟨k0, k1, k2, k3⟩, ew, hl0, hlo, hlk, hbw⟩ := HFS493.out _ hSw; clear hSw hTw; go_simp); (try go_ints); (try with_reducible rfl))
            try simp only [Act.put, List.getElem_toArray, List.getElem_cons_succ, List.getElem_cons_zero, List.setIfInBounds_toArray, List.set_cons_zero, List.set_cons_succ]
            refine anyB_take (i := 10) (v := ?v504_10) rfl (by kernel_rfl) (by kernel_rfl) (by kernel_rfl) (by kernel_rfl) (fun _ _ _ h => h) (Or.inl ⟨by kernel_rfl, ?y504_10⟩) (by kernel_rfl) hHeld ?r504_10
            case y504_10 => ((rintro w ⟨hTw, hSw⟩; obtain ⟨⟨a0, a1, a2, a3⟩, ⟨b0, b1, b2, b3⟩, ⟨k0, k1, k2, k3⟩, ew, hl0, hlo, hlk, hbw⟩ := HFS493.out _ hSw; clear hSw hTw; go_simp); (try go_ints); (try with_reducible rfl))
            try simp only [Act.put, List.getElem_toArray, List.getElem_cons_succ, List.getElem_cons_zero, List.setIfInBounds_toArray, List.set_cons_zero, List.set_cons_succ]
            refine anyB_ready (i := 5) (by kernel_rfl) rfl (fun K hK => ?_)
            simp only [List.getElem_toArray, List.getElem_cons_succ, List.getElem_cons_zero]
            go_simp
            (go_at_call 50; (go_must (with_reducible refine (HCS.out _ hgS).mono ?_)); rintro e w7 hE; obtain ⟨ka7, kc7, wa7, wc7, rfl, hl7, hgc⟩ := hE.open_)
            refine hK.out _ _ ⟨?_, ?_⟩ ?_
            · ((try dsimp only); exact Grows.same (hgS.trans (by repeat' (first | (with_reducible exact hgc) | (with_reducible exact Grows.refl _) | (with_reducible refine Grows.alloc ?_ _) | (with_reducible refine Grows.drew ?_) | (with_reducible refine Grows.ext ?_ _ _)))) _)
            · ((try dsimp only); exact Grows.same (hgS.trans (by repeat' (first | (with_reducible exact hgc) | (with_reducible exact Grows.refl _) | (with_reducible refine Grows.alloc ?_ _) | (with_reducible refine Grows.drew ?_) | (with_reducible refine Grows.ext ?_ _ _)))) _)
            clear hK K hHeld
            intro hHeld
            try simp only [Act.put, List.getElem_toArray, List.getElem_cons_succ, List.getElem_cons_zero, List.setIfInBounds_toArray, List.set_cons_zero, List.set_cons_succ]
            refine abs_anyB (fun W' => Grows X494 W' ∧ LayAt (But3 w.heap.size S) W' z (.slice ka7 z.kids.length kc7) (.slice wa7 z.ws.length wc7)) ⟨(by repeat' (first | (with_reducible exact hgc) | (with_reducible exact Grows.refl _) | (with_reducible refine Grows.alloc ?_ _) | (with_reducible refine Grows.drew ?_) | (with_reducible refine Grows.ext ?_ _ _))), hl7⟩ ?_
            clear hHeld
            rintro X505 ⟨hgn, hex⟩
            have HL7 := Lib.hid hex
            have hgS := hgS.trans hgn
            have hsS := hgS.size
            clear hgn hex
            have hHeld := And.intro (Grows.same hgS (fun b => b ≠ w.heap.size + 1 + 1)) (Grows.same hgS (fun _ => True))
            refine anyB_ready (i := 11) (by kernel_rfl) rfl (fun K hK => ?_)
            simp only [List.getElem_toArray, List.getElem_cons_succ, List.getElem_cons_zero]
            go_simp
            (go_at_call 76; (go_must (with_reducible refine (HADD.out _ hgS _ _ _ _ HL7.out).mono ?_)); rintro e w8 ⟨ka8, n8, kc8, wa8, m8, wc8, rfl, hl8, hgc⟩)
            refine hK.out _ _ ⟨?_, ?_⟩ ?_
            · ((try dsimp only); exact Grows.same (hgS.trans (by repeat' (first | (with_reducible exact hgc) | (with_reducible exact Grows.refl _) | (with_reducible refine Grows.alloc ?_ _) | (with_reducible refine Grows.drew ?_) | (with_reducible refine Grows.ext ?_ _ _)))) _)
            · ((try dsimp only); exact Grows.same (hgS.trans (by repeat' (first | (with_reducible exact hgc) | (with_reducible exact Grows.refl _) | (with_reducible refine Grows.alloc ?_ _) | (with_reducible refine Grows.drew ?_) | (with_reducible refine Grows.ext ?_ _ _)))) _)
            clear hK K hHeld
            intro hHeld
            try simp only [Act.put, List.getElem_toArray, List.getElem_cons_succ, List.getElem_cons_zero, List.setIfInBounds_toArray, List.set_cons_zero, List.set_cons_succ]
            refine abs_anyB (fun W' => Grows X505 W' ∧ LayAt (But3 w.heap.size S) W' (addL (O m) z y) (.slice ka8 n8 kc8) (.slice wa8 m8 wc8)) ⟨(by repeat' (first | (with_reducible exact hgc) | (with_reducible exact Grows.refl _) | (with_reducible refine Grows.alloc ?_ _) | (with_reducible refine Grows.drew ?_) | (with_reducible refine Grows.ext ?_ _ _))), hl8⟩ ?_
            clear hHeld
            rintro X506 ⟨hgn, hex⟩
            have HL7 := Lib.hid (HL7.out.grows hgn)
            have HL8 := Lib.hid hex
            have hgS := hgS.trans hgn
            have hsS := hgS.size
            clear hgn hex
            have hHeld := And.intro (Grows.same hgS (fun b => b ≠ w.heap.size + 1 + 1)) (Grows.same hgS (fun _ => True))
            refine anyB_over (i := 12) (by kernel_rfl) rfl (by kernel_rfl) (fun K hK => ?_)
            simp only [List.getElem_toArray, List.getElem_cons_succ, List.getElem_cons_zero]
            obtain ⟨b0, b1, b2, b3⟩ := (HAO.out.grows hgS).four
            obtain ⟨f0, f1, f2, f3⟩ := (HAO.out.grows hgS).four'
            have hlo := (HAO.out.grows hgS).lt
            go_simp
            skip
            refine hK.out _ _ ?_ ?_
            · ((try dsimp only); exact (by repeat' (first | (with_reducible exact hT8) | (with_reducible exact Grows.same hgS _) | (with_reducible exact Grows.same (hgS.trans hgc) _) | (with_reducible refine Same.trans ?_ (same_set (fun h => Ne.irrefl h))))))
            clear hK K hHeld
            intro hHeld
            try simp only [Act.put, List.getElem_toArray, List.getElem_cons_succ, List.getElem_cons_zero, List.setIfInBounds_toArray, List.set_cons_zero, List.set_cons_succ]
            refine anyB_done (by kernel_rfl) ?_ _
            try clear hHeld
            refine abs_exit (fun W => Grows w W ∧ LayAt (But3 w.heap.size S) W (addL (O m) z y) (.slice ka8 n8 kc8) (.slice wa8 m8 wc8) ∧ Blk W w.heap.size 25 #[.int .i64 k, .int .i64 p, .slice (some ⟨b, off, none⟩) ks.length cap, .slice (some ⟨bw, ow, none⟩) ks.length wc] ∧ Blk W (w.heap.size + 1) 25 #[.int .i64 0, .int .i64 0, .slice none 0 0, .slice none 0 0] ∧ Blk W (w.heap.size + 1 + 1) 25 #[.int .i64 k, .int .i64 0, .slice ka8 n8 kc8, .slice wa8 m8 wc8] ∧ Blk W pk 25 #[.int .i64 x.kind, .int .i64 x.pane, .slice ka kn kc, .slice xa xn xc]) ⟨(HG1.out.trans hgS).set4 (by omega) _ _ _ _, HL8.out.same (but3_set4 (by omega) _ _ _ _), (((HA0.out.grows hgS).other (by omega)).other (by omega)).other (by omega) |>.other (by omega), (((HA1.out.grows hgS).other (by omega)).other (by omega)).other (by omega) |>.other (by omega), (HAO.out.grows hgS).set4, (((HAK.out.grows hgS).other (by omega)).other (by omega)).other (by omega) |>.other (by omega)⟩ ?_
            rintro W5 ⟨hg5, hl5, hb5, hb6, hb7, -⟩
            go_wp2_with fail
            go_roundw
            case rel => exact ⟨m + 1, _, _, _, _, _, _, _, rfl, by omega, by go_num, by rw [HST.out]; exact hl5, hg5, hb5, hb6, hb7⟩
            case measure => simp [intOf]; omega
        · have c1 : (x.kind == 1) = false := by simpa using h1
          clear hc h1
          go_upto_region 13 with fail
          have HFS507 := Lib.hid fun w' (hSw : Same (fun _ => True) W1 w') => And.intro ((HA0.out.same hSw trivial).four) (And.intro ((HAO.out.same hSw trivial).four) (And.intro ((HAK.out.same hSw trivial).four) (And.intro ((hSw.cell HEW.out.1 trivial).trans HEW.out.2) (And.intro ((HA0.out.same hSw trivial).lt) (And.intro ((HAO.out.same hSw trivial).lt) (And.intro ((HAK.out.same hSw trivial).lt) (Nat.lt_of_lt_of_le HEW.out.1 hSw.size)))))))
          have hgS := Grows.refl W1
          refine wp_region_B [12] (fun w' => Same (fun b => b ≠ w.heap.size + 1 + 1) W1 w') (fun w' => Same (fun _ => True) W1 w') (by kernel_rfl) ⟨Grows.same (hgS.trans (by repeat' (first | (with_reducible exact hgc) | (with_reducible exact Grows.refl _) | (with_reducible refine Grows.alloc ?_ _) | (with_reducible refine Grows.drew ?_) | (with_reducible refine Grows.ext ?_ _ _)))) _, Grows.same (hgS.trans (by repeat' (first | (with_reducible exact hgc) | (with_reducible exact Grows.refl _) | (with_reducible refine Grows.alloc ?_ _) | (with_reducible refine Grows.drew ?_) | (with_reducible refine Grows.ext ?_ _ _)))) _⟩ (fun hHeld => ?_)
          refine abs_anyB (fun W' => Grows W1 W' ∧ True) ⟨(by repeat' (first | (with_reducible exact hgc) | (with_reducible exact Grows.refl _) | (with_reducible refine Grows.alloc ?_ _) | (with_reducible refine Grows.drew ?_) | (with_reducible refine Grows.ext ?_ _ _))), trivial⟩ ?_
          clear hHeld
          rintro X508 ⟨hgn, hex⟩
          have hgS := hgS.trans hgn
          have hsS := hgS.size
          clear hgn hex
          have hHeld := And.intro (Grows.same hgS (fun b => b ≠ w.heap.size + 1 + 1)) (Grows.same hgS (fun _ => True))
          refine anyB_take (i := 0) (v := ?v509_0) rfl (by kernel_rfl) (by kernel_rfl) (by kernel_rfl) (by kernel_rfl) (fun _ _ _ h => h) (Or.inl ⟨by kernel_rfl, ?y509_0⟩) (by kernel_rfl) hHeld ?r509_0
          case y509_0 => ((rintro w ⟨hTw, hSw⟩; obtain ⟨⟨a0, a1, a2, a3⟩, ⟨b0, b1, b2, b3⟩, ⟨k0, k1, k2, k3⟩, ew, hl0, hlo, hlk, hbw⟩ := HFS507.out _ hSw; clear hSw hTw; go_simp); (try go_ints); (try with_reducible rfl))
          try simp only [Act.put, List.getElem_toArray, List.getElem_cons_zero, List.setIfInBounds_toArray, List.set_cons_zero, List.set_cons_succ]
          refine anyB_take (i := 1) (v := ?v510_1) rfl (by kernel_rfl) (by kernel_rfl) (by kernel_rfl) (by kernel_rfl) (fun _ _ _ h => h) (Or.inl ⟨by kernel_rfl, ?y510_1⟩) (by kernel_rfl) hHeld ?r510_1
          case y510_1 => ((rintro w ⟨hTw, hSw⟩; obtain ⟨⟨a0, a1, a2, a3⟩, ⟨b0, b1, b2, b3⟩, ⟨k0, k1, k2, k3⟩, ew, hl0, hlo, hlk, hbw⟩ := HFS507.out _ hSw; clear hSw hTw; go_simp); (try go_ints); (try with_reducible rfl))
          try simp only [Act.put, List.getElem_toArray, List.getElem_cons_succ, List.getElem_cons_zero, List.setIfInBounds_toArray, List.set_cons_zero, List.set_cons_succ]
          refine anyB_take (i := 2) (v := ?v511_2) rfl (by kernel_rfl) (by kernel_rfl) (by kernel_rfl) (by kernel_rfl) (fun _ _ _ h => h) (Or.inl ⟨by kernel_rfl, ?y511_2⟩) (by kernel_rfl) hHeld ?r511_2
          case y511_2 => ((rintro w ⟨hTw, hSw⟩; obtain ⟨⟨a0, a1, a2, a3⟩, ⟨b0, b1, b2, b3⟩, ⟨k0, k1, k2, k3⟩, ew, hl0, hlo, hlk, hbw⟩ := HFS507.out _ hSw; clear hSw hTw; go_simp); (try go_ints); (try with_reducible rfl))
          try simp only [Act.put, List.getElem_toArray, List.getElem_cons_succ, List.getElem_cons_zero, List.setIfInBounds_toArray, List.set_cons_zero, List.set_cons_succ]
          refine anyB_take (i := 3) (v := ?v512_3) rfl (by kernel_rfl) (by kernel_rfl) (by kernel_rfl) (by kernel_rfl) (fun _ _ _ h => h) (Or.inl ⟨by kernel_rfl, ?y512_3⟩) (by kernel_rfl) hHeld ?r512_3
          case y512_3 => ((rintro w ⟨hTw, hSw⟩; obtain ⟨⟨a0, a1, a2, a3⟩, ⟨b0, b1, b2, b3⟩, ⟨k0, k1, k2, k3⟩, ew, hl0, hlo, hlk, hbw⟩ := HFS507.out _ hSw; clear hSw hTw; go_simp); (try go_ints); (try with_reducible rfl))
          try simp only [Act.put, List.getElem_toArray, List.getElem_cons_succ, List.getElem_cons_zero, List.setIfInBounds_toArray, List.set_cons_zero, List.set_cons_succ]
          refine anyB_take (i := 4) (v := ?v513_4) rfl (by kernel_rfl) (by kernel_rfl) (by kernel_rfl) (by kernel_rfl) (fun _ _ _ h => h) (Or.inl ⟨by kernel_rfl, ?y513_4⟩) (by kernel_rfl) hHeld ?r513_4
          case y513_4 => ((rintro w ⟨hTw, hSw⟩; obtain ⟨⟨a0, a1, a2, a3⟩, ⟨b0, b1, b2, b3⟩, ⟨k0, k1, k2, k3⟩, ew, hl0, hlo, hlk, hbw⟩ := HFS507.out _ hSw; clear hSw hTw; go_simp); (try go_ints); (try with_reducible rfl))
          try simp only [Act.put, List.getElem_toArray, List.getElem_cons_succ, List.getElem_cons_zero, List.setIfInBounds_toArray, List.set_cons_zero, List.set_cons_succ]
          refine anyB_take (i := 6) (v := ?v514_6) rfl (by kernel_rfl) (by kernel_rfl) (by kernel_rfl) (by kernel_rfl) (fun _ _ _ h => h) (Or.inl ⟨by kernel_rfl, ?y514_6⟩) (by kernel_rfl) hHeld ?r514_6
          case y514_6 => ((rintro w ⟨hTw, hSw⟩; obtain ⟨⟨a0, a1, a2, a3⟩, ⟨b0, b1, b2, b3⟩, ⟨k0, k1, k2, k3⟩, ew, hl0, hlo, hlk, hbw⟩ := HFS507.out _ hSw; clear hSw hTw; go_simp); (try go_ints); (try with_reducible rfl))
          try simp only [Act.put, List.getElem_toArray, List.getElem_cons_succ, List.getElem_cons_zero, List.setIfInBounds_toArray, List.set_cons_zero, List.set_cons_succ]
          refine anyB_take (i := 7) (v := ?v515_7) rfl (by kernel_rfl) (by kernel_rfl) (by kernel_rfl) (by kernel_rfl) (fun _ _ _ h => h) (Or.inl ⟨by kernel_rfl, ?y515_7⟩) (by kernel_rfl) hHeld ?r515_7
          case y515_7 => ((rintro w ⟨hTw, hSw⟩; obtain ⟨⟨a0, a1, a2, a3⟩, ⟨b0, b1, b2, b3⟩, ⟨k0, k1, k2, k3⟩, ew, hl0, hlo, hlk, hbw⟩ := HFS507.out _ hSw; clear hSw hTw; go_simp); (try go_ints); (try with_reducible rfl))
          try simp only [Act.put, List.getElem_toArray, List.getElem_cons_succ, List.getElem_cons_zero, List.setIfInBounds_toArray, List.set_cons_zero, List.set_cons_succ]
          refine anyB_take (i := 8) (v := ?v516_8) rfl (by kernel_rfl) (by kernel_rfl) (by kernel_rfl) (by kernel_rfl) (fun _ _ _ h => h) (Or.inl ⟨by kernel_rfl, ?y516_8⟩) (by kernel_rfl) hHeld ?r516_8
          case y516_8 => ((rintro w ⟨hTw, hSw⟩; obtain ⟨⟨a0, a1, a2, a3⟩, ⟨b0, b1, b2, b3⟩, ⟨k0, k1, k2, k3⟩, ew, hl0, hlo, hlk, hbw⟩ := HFS507.out _ hSw; clear hSw hTw; go_simp); (try go_ints); (try with_reducible rfl))
          try simp only [Act.put, List.getElem_toArray, List.getElem_cons_succ, List.getElem_cons_zero, List.setIfInBounds_toArray, List.set_cons_zero, List.set_cons_succ]
          refine anyB_take (i := 9) (v := ?v517_9) rfl (by kernel_rfl) (by kernel_rfl) (by kernel_rfl) (by kernel_rfl) (fun _ _ _ h => h) (Or.inl ⟨by kernel_rfl, ?y517_9⟩) (by kernel_rfl) hHeld ?r517_9
          case y517_9 => ((rintro w ⟨hTw, hSw⟩; obtain ⟨⟨a0, a1, a2, a3⟩, ⟨b0, b1, b2, b3⟩, ⟨k0, k1, k2, k3⟩, ew, hl0, hlo, hlk, hbw⟩ := HFS507.out _ hSw; clear hSw hTw; go_simp); (try go_ints); (try with_reducible rfl))
          try simp only [Act.put, List.getElem_toArray, List.getElem_cons_succ, List.getElem_cons_zero, List.setIfInBounds_toArray, List.set_cons_zero, List.set_cons_succ]
          refine anyB_take (i := 10) (v := ?v518_10) rfl (by kernel_rfl) (by kernel_rfl) (by kernel_rfl) (by kernel_rfl) (fun _ _ _ h => h) (Or.inl ⟨by kernel_rfl, ?y518_10⟩) (by kernel_rfl) hHeld ?r518_10
          case y518_10 => ((rintro w ⟨hTw, hSw⟩; obtain ⟨⟨a0, a1, a2, a3⟩, ⟨b0, b1, b2, b3⟩, ⟨k0, k1, k2, k3⟩, ew, hl0, hlo, hlk, hbw⟩ := HFS507.out _ hSw; clear hSw hTw; go_simp); (try go_ints); (try with_reducible rfl))
          try simp only [Act.put, List.getElem_toArray, List.getElem_cons_succ, List.getElem_cons_zero, List.setIfInBounds_toArray, List.set_cons_zero, List.set_cons_succ]
          refine anyB_ready (i := 5) (by kernel_rfl) rfl (fun K hK => ?_)
          simp only [List.getElem_toArray, List.getElem_cons_succ, List.getElem_cons_zero]
          go_simp
          (go_at_call 50; (go_must (with_reducible refine (HCS.out _ hgS).mono ?_)); rintro e w7 hE; obtain ⟨ka7, kc7, wa7, wc7, rfl, hl7, hgc⟩ := hE.open_)
          refine hK.out _ _ ⟨?_, ?_⟩ ?_
          · ((try dsimp only); exact Grows.same (hgS.trans (by repeat' (first | (with_reducible exact hgc) | (with_reducible exact Grows.refl _) | (with_reducible refine Grows.alloc ?_ _) | (with_reducible refine Grows.drew ?_) | (with_reducible refine Grows.ext ?_ _ _)))) _)
          · ((try dsimp only); exact Grows.same (hgS.trans (by repeat' (first | (with_reducible exact hgc) | (with_reducible exact Grows.refl _) | (with_reducible refine Grows.alloc ?_ _) | (with_reducible refine Grows.drew ?_) | (with_reducible refine Grows.ext ?_ _ _)))) _)
          clear hK K hHeld
          intro hHeld
          try simp only [Act.put, List.getElem_toArray, List.getElem_cons_succ, List.getElem_cons_zero, List.setIfInBounds_toArray, List.set_cons_zero, List.set_cons_succ]
          refine abs_anyB (fun W' => Grows X508 W' ∧ LayAt (But3 w.heap.size S) W' z (.slice ka7 z.kids.length kc7) (.slice wa7 z.ws.length wc7)) ⟨(by repeat' (first | (with_reducible exact hgc) | (with_reducible exact Grows.refl _) | (with_reducible refine Grows.alloc ?_ _) | (with_reducible refine Grows.drew ?_) | (with_reducible refine Grows.ext ?_ _ _))), hl7⟩ ?_
          clear hHeld
          rintro X519 ⟨hgn, hex⟩
          have HL7 := Lib.hid hex
          have hgS := hgS.trans hgn
          have hsS := hgS.size
          clear hgn hex
          have hHeld := And.intro (Grows.same hgS (fun b => b ≠ w.heap.size + 1 + 1)) (Grows.same hgS (fun _ => True))
          refine anyB_ready (i := 11) (by kernel_rfl) rfl (fun K hK => ?_)
          simp only [List.getElem_toArray, List.getElem_cons_succ, List.getElem_cons_zero]
          go_simp
          (go_at_call 76; (go_must (with_reducible refine (HADD.out _ hgS _ _ _ _ HL7.out).mono ?_)); rintro e w8 ⟨ka8, n8, kc8, wa8, m8, wc8, rfl, hl8, hgc⟩)
          refine hK.out _ _ ⟨?_, ?_⟩ ?_
          · ((try dsimp only); exact Grows.same (hgS.trans (by repeat' (first | (with_reducible exact hgc) | (with_reducible exact Grows.refl _) | (with_reducible refine Grows.alloc ?_ _) | (with_reducible refine Grows.drew ?_) | (with_reducible refine Grows.ext ?_ _ _)))) _)
          · ((try dsimp only); exact Grows.same (hgS.trans (by repeat' (first | (with_reducible exact hgc) | (with_reducible exact Grows.refl _) | (with_reducible refine Grows.alloc ?_ _) | (with_reducible refine Grows.drew ?_) | (with_reducible refine Grows.ext ?_ _ _)))) _)
          clear hK K hHeld
          intro hHeld
          try simp only [Act.put, List.getElem_toArray, List.getElem_cons_succ, List.getElem_cons_zero, List.setIfInBounds_toArray, List.set_cons_zero, List.set_cons_succ]
          refine abs_anyB (fun W' => Grows X519 W' ∧ LayAt (But3 w.heap.size S) W' (addL (O m) z y) (.slice ka8 n8 kc8) (.slice wa8 m8 wc8)) ⟨(by repeat' (first | (with_reducible exact hgc) | (with_reducible exact Grows.refl _) | (with_reducible refine Grows.alloc ?_ _) | (with_reducible refine Grows.drew ?_) | (with_reducible refine Grows.ext ?_ _ _))), hl8⟩ ?_
          clear hHeld
          rintro X520 ⟨hgn, hex⟩
          have HL7 := Lib.hid (HL7.out.grows hgn)
          have HL8 := Lib.hid hex
          have hgS := hgS.trans hgn
          have hsS := hgS.size
          clear hgn hex
          have hHeld := And.intro (Grows.same hgS (fun b => b ≠ w.heap.size + 1 + 1)) (Grows.same hgS (fun _ => True))
          refine anyB_over (i := 12) (by kernel_rfl) rfl (by kernel_rfl) (fun K hK => ?_)
          simp only [List.getElem_toArray, List.getElem_cons_succ, List.getElem_cons_zero]
          obtain ⟨b0, b1, b2, b3⟩ := (HAO.out.grows hgS).four
          obtain ⟨f0, f1, f2, f3⟩ := (HAO.out.grows hgS).four'
          have hlo := (HAO.out.grows hgS).lt
          go_simp
          skip
          refine hK.out _ _ ?_ ?_
          · ((try dsimp only); exact (by repeat' (first | (with_reducible exact hT8) | (with_reducible exact Grows.same hgS _) | (with_reducible exact Grows.same (hgS.trans hgc) _) | (with_reducible refine Same.trans ?_ (same_set (fun h => Ne.irrefl h))))))
          clear hK K hHeld
          intro hHeld
          try simp only [Act.put, List.getElem_toArray, List.getElem_cons_succ, List.getElem_cons_zero, List.setIfInBounds_toArray, List.set_cons_zero, List.set_cons_succ]
          refine anyB_done (by kernel_rfl) ?_ _
          try clear hHeld
          refine abs_exit (fun W => Grows w W ∧ LayAt (But3 w.heap.size S) W (addL (O m) z y) (.slice ka8 n8 kc8) (.slice wa8 m8 wc8) ∧ Blk W w.heap.size 25 #[.int .i64 k, .int .i64 p, .slice (some ⟨b, off, none⟩) ks.length cap, .slice (some ⟨bw, ow, none⟩) ks.length wc] ∧ Blk W (w.heap.size + 1) 25 #[.int .i64 0, .int .i64 0, .slice none 0 0, .slice none 0 0] ∧ Blk W (w.heap.size + 1 + 1) 25 #[.int .i64 k, .int .i64 0, .slice ka8 n8 kc8, .slice wa8 m8 wc8] ∧ Blk W pk 25 #[.int .i64 x.kind, .int .i64 x.pane, .slice ka kn kc, .slice xa xn xc]) ⟨(HG1.out.trans hgS).set4 (by omega) _ _ _ _, HL8.out.same (but3_set4 (by omega) _ _ _ _), (((HA0.out.grows hgS).other (by omega)).other (by omega)).other (by omega) |>.other (by omega), (((HA1.out.grows hgS).other (by omega)).other (by omega)).other (by omega) |>.other (by omega), (HAO.out.grows hgS).set4, (((HAK.out.grows hgS).other (by omega)).other (by omega)).other (by omega) |>.other (by omega)⟩ ?_
          rintro W5 ⟨hg5, hl5, hb5, hb6, hb7, -⟩
          go_wp2_with fail
          go_roundw
          case rel => exact ⟨m + 1, _, _, _, _, _, _, _, rfl, by omega, by go_num, by rw [HST.out]; exact hl5, hg5, hb5, hb6, hb7⟩
          case measure => simp [intOf]; omega
    · have e : m = ks.length := by omega
      subst e
      obtain ⟨d0, d1, d2, d3⟩ := HB1.out.four
      obtain ⟨f0, f1, f2, f3⟩ := HB1.out.four'
      have hl1 := HB1.out.lt
      clear hg
      go_wp2_with fail
      refine ret_cell (t := 25) (n := w.heap.size + 1) (cs := #[.int .i64 k, .int .i64 0, .slice ra yn rc, .slice rb zn rd]) rfl rfl ?_ Try.underlying25 rfl (by kernel_rfl) rfl ?_
      · exact HB1.out.set4
      · refine ⟨_, _, by rw [(HHD.out ks.length).1, (HHD.out ks.length).2], (HLO.out.same (but3_set4 (by omega) _ _ _ _)).unbut3, HG.out.set4 (by omega) _ _ _ _⟩
end Go.Proofs.Ytbobpgegkmcapaa

namespace Go.Proofs.Ytbobpgegkmcapaa
open Go.RowKit

theorem stepC_head (pane : Int) (out x r : Lay) (g : Int) : (stepC pane out x r g).kind = out.kind ∧ (stepC pane out x r g).pane = out.pane := by
  unfold stepC
  split
  · exact ⟨rfl, rfl⟩
  · exact addL_head _ _ _
theorem outC_head (pane k : Int) (l : List (Lay × Int)) : (outC pane k l).kind = k ∧ (outC pane k l).pane = 0 := by
  have key : ∀ (l : List (Lay × Int)) (o : Lay), (l.foldl (fun out q => stepC pane out q.1 (rdropL pane q.1) q.2) o).kind = o.kind ∧ (l.foldl (fun out q => stepC pane out q.1 (rdropL pane q.1) q.2) o).pane = o.pane := by
    intro l
    induction l with
    | nil => intro o; exact ⟨rfl, rfl⟩
    | cons q l ih =>
      intro o
      rw [List.foldl_cons]
      exact ⟨(ih _).1.trans (stepC_head _ _ _ _ _).1, (ih _).2.trans (stepC_head _ _ _ _ _).2⟩
  exact key l _
set_option maxRecDepth 100000 in
set_option maxHeartbeats 4000000 in
theorem rdrop_leaf {S : Nat → Prop} (p pane : Int) (a wa : Option Addr) (cap wc : Nat) (w : World) (h : LayAt S w (leafL p) (.slice a 0 cap) (.slice wa 0 wc)) : Calls Try.prog 51 #[.agg #[.int .i64 1, .int .i64 p, .slice a 0 cap, .slice wa 0 wc], .int .i64 pane] w (fun e w' => LRes S w w' (leafL p) e) := by
  have HL := Lib.hid h
  clear h
  go_enter Try.func51, Try.ntmps51
  go_upto_region 1 with fail
  refine abs_worldM (fun W => Grows w W ∧ Blk W w.heap.size 25 #[.int .i64 1, .int .i64 p, .slice a 0 cap, .slice wa 0 wc] ∧ Blk W (w.heap.size + 1) 25 #[.int .i64 0, .int .i64 0, .slice none 0 0, .slice none 0 0]) (boxes2 _ _ _) ?_
  rintro W0 ⟨hg0, hb0, hb1⟩
  obtain ⟨a0, a1, a2, a3⟩ := hb0.four
  obtain ⟨d0, d1, d2, d3⟩ := hb1.four
  obtain ⟨f0, f1, f2, f3⟩ := hb1.four'
  have hl0 := hb0.lt
  have hl1 := hb1.lt
  have HB1 := Lib.hid hb1
  have HG0 := Lib.hid hg0
  clear hb0 hb1 hg0
  go_wp2_with fail
  refine ret_cell (t := 25) (n := w.heap.size + 1) (cs := #[.int .i64 1, .int .i64 p, .slice a 0 cap, .slice wa 0 wc]) rfl rfl ?_ Try.underlying25 rfl (by kernel_rfl) rfl ?_
  · exact HB1.out.set4
  · have hg9 := HG0.out.set4 (n := w.heap.size + 1) (by omega) (.int .i64 1) (.int .i64 p) (.slice a 0 cap) (.slice wa 0 wc)
    exact ⟨_, _, rfl, HL.out.grows hg9, hg9⟩
theorem lastC_one {l : Lay} {x : Lay} (h : l.kids.length = 1) (hx : l.kids[0]? = some x) : lastC l = x := by rw [lastC, if_pos h, hx]; rfl
theorem lastC_no {l : Lay} (h : ¬ l.kids.length = 1) : lastC l = l := by rw [lastC, if_neg h]
set_option maxRecDepth 100000 in
set_option maxHeartbeats 8000000 in
theorem rdrop_any (pane : Int) (L : Lay) : okTree L = true → (panesL L).Nodup → (panesL L).length ≤ 400 → ∀ (S : Nat → Prop) (vk vw : Value) (w : World), (∀ b, w.heap.size ≤ b → S b) → LayAt S w L vk vw → Calls Try.prog 51 #[.agg #[.int .i64 L.kind, .int .i64 L.pane, vk, vw], .int .i64 pane] w (fun e w' => LRes S w w' (rdropL pane L) e) := by
  induction L using Lay.ind with | h k p ks ws ih => ?_
  intro hok hnd hn S vk vw w hS h
  by_cases hk : k = 1
  · have hf := leaf_of hok hk
    obtain ⟨rfl, rfl, rfl⟩ : k = 1 ∧ ks = [] ∧ ws = [] := by
      unfold leafL at hf
      injection hf with e1 e2 e3 e4
      exact ⟨e1, e3, e4⟩
    obtain ⟨a, cap, rfl, -⟩ := h.kids.shape rfl
    obtain ⟨wa, wc, rfl, -⟩ := h.ints.shape rfl
    rw [rdropL_mk, if_pos rfl]
    exact rdrop_leaf p pane _ _ _ _ w h
  have kk : (k == 1) = false := by simpa using hk
  obtain ⟨-, -, -, hwl, -, -, hkok⟩ := split_facts hok hk
  rw [panesL_mk, if_neg hk] at hn hnd
  have hkl : ∀ x ∈ ks, (panesL x).length ≤ 400 := fun x hx => by have := len_mem hx; omega
  have hkd : ∀ x ∈ ks, (panesL x).Nodup := fun x hx => by
    obtain ⟨i, hi, rfl⟩ := List.getElem_of_mem hx
    obtain ⟨A, B, h2, -⟩ := cut_ex (List.getElem?_eq_getElem hi)
    rw [h2, flat_cut] at hnd
    exact (List.nodup_append.1 (List.nodup_append.1 hnd).2.1).1
  have hkn : ks.length ≤ 400 := by have := len_kids (ks := ks) hkok; omega
  rw [rdropL_mk, if_neg hk]
  obtain ⟨O, hO⟩ : ∃ O : Nat → Lay, ∀ m, O m = outC pane k ((ks.zip ws).take m) := ⟨_, fun _ => rfl⟩
  have HW := Lib.hid fun (m : Nat) (hm : m ≤ ks.length) => (show Wid (O m) 900 by rw [hO]; exact wid_le (wid_outC pane hok hk hnd (by omega) m hm) (by have := take_panes ks m; omega))
  have HWR := Lib.hid fun (x : Lay) (hx : x ∈ ks) (hc : ¬ (x.kind = 1 ∧ x.pane = pane)) => (show Wid (rdropL pane x) 1000 by obtain ⟨h1, h2⟩ := rdrop_ok (hkok x hx) hc (hkd x hx) (by have := hkl x hx; omega); exact wid_le (wid_ok h1) (by have := hkl x hx; omega))
  have HHD := Lib.hid fun (m : Nat) => (show (O m).kind = k ∧ (O m).pane = 0 by rw [hO]; exact outC_head _ _ _)
  have HSN := Lib.hid fun (m : Nat) (x : Lay) (y : Int) (hx : ks[m]? = some x) (hy : ws[m]? = some y) => (show O (m + 1) = stepC pane (O m) x (rdropL pane x) y by rw [hO, hO, take_snoc (zip_at hx hy), outC_snoc])
  have HO0 := Lib.hid (show O 0 = .mk k 0 [] [] by rw [hO]; rfl)
  have HON := Lib.hid (show O ks.length = outC pane k (ks.zip ws) by rw [hO, List.take_of_length_le (by rw [List.length_zip]; omega)])
  rw [← HON.out]
  obtain ⟨a, cap, G, rfl, hcap, hmx, hin⟩ := h.lt.kids.open_ rfl
  obtain ⟨wa, wc, rfl, -, -, hiw⟩ := h.lt.ints.open_ rfl
  dsimp only [Lay.kids, Lay.ws, Lay.kind, Lay.pane] at hcap hmx hin hiw h ⊢
  have Hin := Lib.hid hin
  have Hiw := Lib.hid hiw
  have HI := Lib.hid fun (x : Lay) (hx : x ∈ ks) => ih x hx (hkok x hx) (hkd x hx) (hkl x hx)
  have HS := Lib.hid hS
  have HWN := Lib.hid hwl
  rw [hwl]
  clear ih hok hn hS h hkok hin hiw hkl hO hk hwl hnd hkd
  go_enter Try.func51, Try.ntmps51
  go_upto_region 4 with fail
  refine abs_worldM (fun W => Grows w W ∧ Blk W w.heap.size 25 #[.int .i64 k, .int .i64 p, .slice a ks.length cap, .slice wa ks.length wc] ∧ Blk W (w.heap.size + 1) 25 #[.int .i64 0, .int .i64 0, .slice none 0 0, .slice none 0 0] ∧ Blk W (w.heap.size + 1 + 1) 25 #[.int .i64 k, .int .i64 0, .slice none 0 0, .slice none 0 0]) (boxes3 _ _ _ _) ?_
  rintro W0 ⟨hg0, hb0, hb1, hbo⟩
  have HB0 := Lib.hid hb0
  have HB1 := Lib.hid hb1
  have HBO := Lib.hid hbo
  have HG0 := Lib.hid hg0
  clear hb0 hb1 hbo hg0
  go_wp2_with fail
  go_loopw [6] (fun i wr => ∃ (m : Nat) (wv : World) (ra rb : Option Addr) (yn rc zn rd : Nat), wv = wr ∧ m ≤ ks.length ∧ i = .int .i64 m ∧ LayAt (But3 w.heap.size S) wv (O m) (.slice ra yn rc) (.slice rb zn rd) ∧ Grows w wv ∧ Blk wv w.heap.size 25 #[.int .i64 k, .int .i64 p, .slice a ks.length cap, .slice wa ks.length wc] ∧ Blk wv (w.heap.size + 1) 25 #[.int .i64 0, .int .i64 0, .slice none 0 0, .slice none 0 0] ∧ Blk wv (w.heap.size + 1 + 1) 25 #[.int .i64 k, .int .i64 0, .slice ra yn rc, .slice rb zn rd]) (fun i _ => ks.length - (intOf i).toNat)
  case atStart => exact ⟨0, _, none, none, 0, 0, 0, 0, rfl, Nat.zero_le _, rfl, by rw [HO0.out]; exact LayAt_mk.2 ⟨IntsAt.nil _ _ _ _, KidsAt.nil _ _ _ _⟩, HG0.out, HB0.out, HB1.out, HBO.out⟩
  case round =>
    clear HB0 HB1 HBO HG0 W0
    obtain ⟨m, wv, ra, rb, yn, rc, zn, rd, rfl, hm, rfl, hlo, hg, hb0, hb1, hbo⟩ := hrel
    have HO1 := Lib.hid hlo
    have HG1 := Lib.hid hg
    have HA0 := Lib.hid hb0
    have HA1 := Lib.hid hb1
    have HAO := Lib.hid hbo
    obtain ⟨a0, a1, a2, a3⟩ := hb0.four
    obtain ⟨b0, b1, b2, b3⟩ := hbo.four
    have hl0 := hb0.lt
    have hlob := hbo.lt
    have hz1 : w.heap.size + 3 ≤ wv.heap.size := by omega
    clear hb0 hb1 hbo
    by_cases hlt : m < ks.length
    · obtain ⟨b, off, x, ka, kn, kc, xa, xn, xc, rfl, hb, hbn, hx, hmem, -, -, e0, e1, e4, e3, hL⟩ := (Hin.out.grows hg).at_ hlt
      obtain ⟨bw, ow, y, rfl, hbw, hbwn, hy, -, ew⟩ := (Hiw.out.grows hg).at_ (show m < ws.length from HWN.out ▸ hlt)
      have HSNX := Lib.hid (HSN.out m x y hx hy)
      have hLx : LayAt (But3 w.heap.size S) wv x (.slice ka kn kc) (.slice xa xn xc) := hL.mono fun b _ hb => ⟨hb.1, .inl hb.2⟩
      have HWR' := Lib.hid (HWR.out x hmem)
      have HIX := Lib.hid (HI.out x hmem)
      have HWM := Lib.hid (HW.out m hm)
      have HX1 := Lib.hid hLx
      have HEW := Lib.hid (And.intro hbw ew)
      have HE := Lib.hid (⟨hb, trivial, e0, e1, e4, e3⟩ : b < wv.heap.size ∧ True ∧ wv.cell? ⟨b, off + m * 4, none⟩ = some (.int .i64 x.kind) ∧ wv.cell? ⟨b, off + m * 4 + 1, none⟩ = some (.int .i64 x.pane) ∧ wv.cell? ⟨b, off + m * 4 + 2, none⟩ = some (.slice ka kn kc) ∧ wv.cell? ⟨b, off + m * 4 + 3, none⟩ = some (.slice xa xn xc))
      clear hlo hg hx hmem hL hy hLx ew hbw
      by_cases hc : x.kind = 1 ∧ x.pane = pane
      · have c1 : (x.kind != 1) = false := by simpa using hc.1
        have c2 : (x.pane != pane) = false := by simpa using hc.2
        have HST := Lib.hid (show O (m + 1) = O m by rw [HSNX.out, stepC, if_pos hc])
        clear hc
        go_wp2_with fail
        go_roundw
        case rel => exact ⟨m + 1, _, _, _, _, _, _, _, rfl, by omega, by go_num, by rw [HST.out]; exact HO1.out, HG1.out, HA0.out, HA1.out, HAO.out⟩
        case measure => simp [intOf]; omega
      · have HST := Lib.hid (show O (m + 1) = addL (O m) (rdropL pane x) y by rw [HSNX.out, stepC, if_neg hc])
        have HWX := Lib.hid (HWR'.out hc)
        have HCS := Lib.hid fun W (g : Grows wv W) => HIX.out (But3 w.heap.size S) _ _ W (but3_fresh HS.out (by have := g.size; omega)) (HX1.out.grows g)
        obtain ⟨z, hz⟩ : ∃ z, rdropL pane x = z := ⟨_, rfl⟩
        rw [hz] at HCS HST HWX
        have HADD := Lib.hid fun W (g : Grows wv W) ka kc wa wc (hl : LayAt (But3 w.heap.size S) W z (.slice ka z.kids.length kc) (.slice wa z.ws.length wc)) => radd_k (O m) z y (HHD.out m).1 (HHD.out m).2 rfl rfl _ _ _ _ W (but3_fresh HS.out (by have := g.size; omega)) (HO1.out.grows g) hl (wid_le HWM.out (by omega)) HWX.out
        clear hz
        by_cases h1 : x.kind = 1
        · have c1 : (x.kind != 1) = false := by simpa using h1
          have c2 : (x.pane != pane) = true := by simpa using fun h2 => hc ⟨h1, h2⟩
          clear hc h1
          go_upto_region 8 with fail
          clear a0 a1 a2 a3 b0 b1 b2 b3 hl0 hlob e0 e1 e4 e3 hb
          have HFS521 := Lib.hid fun w' (hSw : Same (fun _ => True) wv w') => And.intro ((HA0.out.same hSw trivial).four) (And.intro ((HAO.out.same hSw trivial).four) (And.intro ((hSw.cell HEW.out.1 trivial).trans HEW.out.2) (And.intro ((hSw.cell (i := off + m * 4) HE.out.1 HE.out.2.1).trans HE.out.2.2.1) (And.intro ((hSw.cell (i := off + m * 4 + 1) HE.out.1 HE.out.2.1).trans HE.out.2.2.2.1) (And.intro ((hSw.cell (i := off + m * 4 + 2) HE.out.1 HE.out.2.1).trans HE.out.2.2.2.2.1) (And.intro ((hSw.cell (i := off + m * 4 + 3) HE.out.1 HE.out.2.1).trans HE.out.2.2.2.2.2) (And.intro (Nat.lt_of_lt_of_le HE.out.1 hSw.size) (And.intro ((HA0.out.same hSw trivial).lt) (And.intro ((HAO.out.same hSw trivial).lt) (Nat.lt_of_lt_of_le HEW.out.1 hSw.size))))))))))
          have hgS := Grows.refl wv
          refine wp_region_B [14] (fun w' => Same (fun b => b ≠ w.heap.size + 1 + 1) wv w') (fun w' => Same (fun _ => True) wv w') (by kernel_rfl) ⟨Grows.same (hgS.trans (by repeat' (first | (with_reducible exact hgc) | (with_reducible exact Grows.refl _) | (with_reducible refine Grows.alloc ?_ _) | (with_reducible refine Grows.drew ?_) | (with_reducible refine Grows.ext ?_ _ _)))) _, Grows.same (hgS.trans (by repeat' (first | (with_reducible exact hgc) | (with_reducible exact Grows.refl _) | (with_reducible refine Grows.alloc ?_ _) | (with_reducible refine Grows.drew ?_) | (with_reducible refine Grows.ext ?_ _ _)))) _⟩ (fun hHeld => ?_)
          refine abs_anyB (fun W' => Grows wv W' ∧ True) ⟨(by repeat' (first | (with_reducible exact hgc) | (with_reducible exact Grows.refl _) | (with_reducible refine Grows.alloc ?_ _) | (with_reducible refine Grows.drew ?_) | (with_reducible refine Grows.ext ?_ _ _))), trivial⟩ ?_
          clear hHeld
          rintro X522 ⟨hgn, hex⟩
          have hgS := hgS.trans hgn
          have hsS := hgS.size
          clear hgn hex
          have hHeld := And.intro (Grows.same hgS (fun b => b ≠ w.heap.size + 1 + 1)) (Grows.same hgS (fun _ => True))
          refine anyB_take (i := 0) (v := ?v523_0) rfl (by kernel_rfl) (by kernel_rfl) (by kernel_rfl) (by kernel_rfl) (fun _ _ _ h => h) (Or.inl ⟨by kernel_rfl, ?y523_0⟩) (by kernel_rfl) hHeld ?r523_0
          case y523_0 => ((rintro w ⟨hTw, hSw⟩; obtain ⟨⟨a0, a1, a2, a3⟩, ⟨b0, b1, b2, b3⟩, ew, e0', e1', e2', e3', hbb, hl0, hlo, hbw⟩ := HFS521.out _ hSw; clear hSw hTw; go_simp); (try go_ints); (try with_reducible rfl))
          try simp only [Act.put, List.getElem_toArray, List.getElem_cons_zero, List.setIfInBounds_toArray, List.set_cons_zero, List.set_cons_succ]
          refine anyB_take (i := 1) (v := ?v524_1) rfl (by kernel_rfl) (by kernel_rfl) (by kernel_rfl) (by kernel_rfl) (fun _ _ _ h => h) (Or.inl ⟨by kernel_rfl, ?y524_1⟩) (by kernel_rfl) hHeld ?r524_1
          case y524_1 => ((rintro w ⟨hTw, hSw⟩; obtain ⟨⟨a0, a1, a2, a3⟩, ⟨b0, b1, b2, b3⟩, ew, e0', e1', e2', e3', hbb, hl0, hlo, hbw⟩ := HFS521.out _ hSw; clear hSw hTw; go_simp); (try go_ints); (try with_reducible rfl))
          try simp only [Act.put, List.getElem_toArray, List.getElem_cons_succ, List.getElem_cons_zero, List.setIfInBounds_toArray, List.set_cons_zero, List.set_cons_succ]
          refine anyB_take (i := 2) (v := ?v525_2) rfl (by kernel_rfl) (by kernel_rfl) (by kernel_rfl) (by kernel_rfl) (fun _ _ _ h => h) (Or.inl ⟨by kernel_rfl, ?y525_2⟩) (by kernel_rfl) hHeld ?r525_2
          case y525_2 => ((rintro w ⟨hTw, hSw⟩; obtain ⟨⟨a0, a1, a2, a3⟩, ⟨b0, b1, b2, b3⟩, ew, e0', e1', e2', e3', hbb, hl0, hlo, hbw⟩ := HFS521.out _ hSw; clear hSw hTw; go_simp); (try go_ints); (try with_reducible rfl))
          try simp only [Act.put, List.getElem_toArray, List.getElem_cons_succ, List.getElem_cons_zero, List.setIfInBounds_toArray, List.set_cons_zero, List.set_cons_succ]
          refine anyB_take (i := 3) (v := ?v526_3) rfl (by kernel_rfl) (by kernel_rfl) (by kernel_rfl) (by kernel_rfl) (fun _ _ _ h => h) (Or.inl ⟨by kernel_rfl, ?y526_3⟩) (by kernel_rfl) hHeld ?r526_3
          case y526_3 => ((rintro w ⟨hTw, hSw⟩; obtain ⟨⟨a0, a1, a2, a3⟩, ⟨b0, b1, b2, b3⟩, ew, e0', e1', e2', e3', hbb, hl0, hlo, hbw⟩ := HFS521.out _ hSw; clear hSw hTw; go_simp); (try go_ints); (try with_reducible rfl))
          try simp only [Act.put, List.getElem_toArray, List.getElem_cons_succ, List.getElem_cons_zero, List.setIfInBounds_toArray, List.set_cons_zero, List.set_cons_succ]
          refine anyB_take (i := 4) (v := ?v527_4) rfl (by kernel_rfl) (by kernel_rfl) (by kernel_rfl) (by kernel_rfl) (fun _ _ _ h => h) (Or.inl ⟨by kernel_rfl, ?y527_4⟩) (by kernel_rfl) hHeld ?r527_4
          case y527_4 => ((rintro w ⟨hTw, hSw⟩; obtain ⟨⟨a0, a1, a2, a3⟩, ⟨b0, b1, b2, b3⟩, ew, e0', e1', e2', e3', hbb, hl0, hlo, hbw⟩ := HFS521.out _ hSw; clear hSw hTw; go_simp); (try go_ints); (try with_reducible rfl))
          try simp only [Act.put, List.getElem_toArray, List.getElem_cons_succ, List.getElem_cons_zero, List.setIfInBounds_toArray, List.set_cons_zero, List.set_cons_succ]
          refine anyB_take (i := 5) (v := ?v528_5) rfl (by kernel_rfl) (by kernel_rfl) (by kernel_rfl) (by kernel_rfl) (fun _ _ _ h => h) (Or.inl ⟨by kernel_rfl, ?y528_5⟩) (by kernel_rfl) hHeld ?r528_5
          case y528_5 => ((rintro w ⟨hTw, hSw⟩; obtain ⟨⟨a0, a1, a2, a3⟩, ⟨b0, b1, b2, b3⟩, ew, e0', e1', e2', e3', hbb, hl0, hlo, hbw⟩ := HFS521.out _ hSw; clear hSw hTw; go_simp); (try go_ints); (try with_reducible rfl))
          try simp only [Act.put, List.getElem_toArray, List.getElem_cons_succ, List.getElem_cons_zero, List.setIfInBounds_toArray, List.set_cons_zero, List.set_cons_succ]
          refine anyB_take (i := 6) (v := ?v529_6) rfl (by kernel_rfl) (by kernel_rfl) (by kernel_rfl) (by kernel_rfl) (fun _ _ _ h => h) (Or.inl ⟨by kernel_rfl, ?y529_6⟩) (by kernel_rfl) hHeld ?r529_6
          case y529_6 => ((rintro w ⟨hTw, hSw⟩; obtain ⟨⟨a0, a1, a2, a3⟩, ⟨b0, b1, b2, b3⟩, ew, e0', e1', e2', e3', hbb, hl0, hlo, hbw⟩ := HFS521.out _ hSw; clear hSw hTw; go_simp); (try go_ints); (try with_reducible rfl))
          try simp only [Act.put, List.getElem_toArray, List.getElem_cons_succ, List.getElem_cons_zero, List.setIfInBounds_toArray, List.set_cons_zero, List.set_cons_succ]
          refine anyB_take (i := 8) (v := ?v530_8) rfl (by kernel_rfl) (by kernel_rfl) (by kernel_rfl) (by kernel_rfl) (fun _ _ _ h => h) (Or.inl ⟨by kernel_rfl, ?y530_8⟩) (by kernel_rfl) hHeld ?r530_8
          case y530_8 => ((rintro w ⟨hTw, hSw⟩; obtain ⟨⟨a0, a1, a2, a3⟩, ⟨b0, b1, b2, b3⟩, ew, e0', e1', e2', e3', hbb, hl0, hlo, hbw⟩ := HFS521.out _ hSw; clear hSw hTw; go_simp); (try go_ints); (try with_reducible rfl))
          try simp only [Act.put, List.getElem_toArray, List.getElem_cons_succ, List.getElem_cons_zero, List.setIfInBounds_toArray, List.set_cons_zero, List.set_cons_succ]
          refine anyB_take (i := 9) (v := ?v531_9) rfl (by kernel_rfl) (by kernel_rfl) (by kernel_rfl) (by kernel_rfl) (fun _ _ _ h => h) (Or.inl ⟨by kernel_rfl, ?y531_9⟩) (by kernel_rfl) hHeld ?r531_9
          case y531_9 => ((rintro w ⟨hTw, hSw⟩; obtain ⟨⟨a0, a1, a2, a3⟩, ⟨b0, b1, b2, b3⟩, ew, e0', e1', e2', e3', hbb, hl0, hlo, hbw⟩ := HFS521.out _ hSw; clear hSw hTw; go_simp); (try go_ints); (try with_reducible rfl))
          try simp only [Act.put, List.getElem_toArray, List.getElem_cons_succ, List.getElem_cons_zero, List.setIfInBounds_toArray, List.set_cons_zero, List.set_cons_succ]
          refine anyB_take (i := 10) (v := ?v532_10) rfl (by kernel_rfl) (by kernel_rfl) (by kernel_rfl) (by kernel_rfl) (fun _ _ _ h => h) (Or.inl ⟨by kernel_rfl, ?y532_10⟩) (by kernel_rfl) hHeld ?r532_10
          case y532_10 => ((rintro w ⟨hTw, hSw⟩; obtain ⟨⟨a0, a1, a2, a3⟩, ⟨b0, b1, b2, b3⟩, ew, e0', e1', e2', e3', hbb, hl0, hlo, hbw⟩ := HFS521.out _ hSw; clear hSw hTw; go_simp); (try go_ints); (try with_reducible rfl))
          try simp only [Act.put, List.getElem_toArray, List.getElem_cons_succ, List.getElem_cons_zero, List.setIfInBounds_toArray, List.set_cons_zero, List.set_cons_succ]
          refine anyB_take (i := 11) (v := ?v533_11) rfl (by kernel_rfl) (by kernel_rfl) (by kernel_rfl) (by kernel_rfl) (fun _ _ _ h => h) (Or.inl ⟨by kernel_rfl, ?y533_11⟩) (by kernel_rfl) hHeld ?r533_11
          case y533_11 => ((rintro w ⟨hTw, hSw⟩; obtain ⟨⟨a0, a1, a2, a3⟩, ⟨b0, b1, b2, b3⟩, ew, e0', e1', e2', e3', hbb, hl0, hlo, hbw⟩ := HFS521.out _ hSw; clear hSw hTw; go_simp); (try go_ints); (try with_reducible rfl))
          try simp only [Act.put, List.getElem_toArray, List.getElem_cons_succ, List.getElem_cons_zero, List.setIfInBounds_toArray, List.set_cons_zero, List.set_cons_succ]
          refine anyB_take (i := 12) (v := ?v534_12) rfl (by kernel_rfl) (by kernel_rfl) (by kernel_rfl) (by kernel_rfl) (fun _ _ _ h => h) (Or.inl ⟨by kernel_rfl, ?y534_12⟩) (by kernel_rfl) hHeld ?r534_12
          case y534_12 => ((rintro w ⟨hTw, hSw⟩; obtain ⟨⟨a0, a1, a2, a3⟩, ⟨b0, b1, b2, b3⟩, ew, e0', e1', e2', e3', hbb, hl0, hlo, hbw⟩ := HFS521.out _ hSw; clear hSw hTw; go_simp); (try go_ints); (try with_reducible rfl))
          try simp only [Act.put, List.getElem_toArray, List.getElem_cons_succ, List.getElem_cons_zero, List.setIfInBounds_toArray, List.set_cons_zero, List.set_cons_succ]
          refine anyB_ready (i := 7) (by kernel_rfl) rfl (fun K hK => ?_)
          simp only [List.getElem_toArray, List.getElem_cons_succ, List.getElem_cons_zero]
          go_simp
          (go_at_call 51; (go_must (with_reducible refine (HCS.out _ hgS).mono ?_)); rintro e w7 hE; obtain ⟨ka7, kc7, wa7, wc7, rfl, hl7, hgc⟩ := hE.open_)
          refine hK.out _ _ ⟨?_, ?_⟩ ?_
          · ((try dsimp only); exact Grows.same (hgS.trans (by repeat' (first | (with_reducible exact hgc) | (with_reducible exact Grows.refl _) | (with_reducible refine Grows.alloc ?_ _) | (with_reducible refine Grows.drew ?_) | (with_reducible refine Grows.ext ?_ _ _)))) _)
          · ((try dsimp only); exact Grows.same (hgS.trans (by repeat' (first | (with_reducible exact hgc) | (with_reducible exact Grows.refl _) | (with_reducible refine Grows.alloc ?_ _) | (with_reducible refine Grows.drew ?_) | (with_reducible refine Grows.ext ?_ _ _)))) _)
          clear hK K hHeld
          intro hHeld
          try simp only [Act.put, List.getElem_toArray, List.getElem_cons_succ, List.getElem_cons_zero, List.setIfInBounds_toArray, List.set_cons_zero, List.set_cons_succ]
          refine abs_anyB (fun W' => Grows X522 W' ∧ LayAt (But3 w.heap.size S) W' z (.slice ka7 z.kids.length kc7) (.slice wa7 z.ws.length wc7)) ⟨(by repeat' (first | (with_reducible exact hgc) | (with_reducible exact Grows.refl _) | (with_reducible refine Grows.alloc ?_ _) | (with_reducible refine Grows.drew ?_) | (with_reducible refine Grows.ext ?_ _ _))), hl7⟩ ?_
          clear hHeld
          rintro X535 ⟨hgn, hex⟩
          have HL7 := Lib.hid hex
          have hgS := hgS.trans hgn
          have hsS := hgS.size
          clear hgn hex
          have hHeld := And.intro (Grows.same hgS (fun b => b ≠ w.heap.size + 1 + 1)) (Grows.same hgS (fun _ => True))
          refine anyB_ready (i := 13) (by kernel_rfl) rfl (fun K hK => ?_)
          simp only [List.getElem_toArray, List.getElem_cons_succ, List.getElem_cons_zero]
          go_simp
          (go_at_call 76; (go_must (with_reducible refine (HADD.out _ hgS _ _ _ _ HL7.out).mono ?_)); rintro e w8 ⟨ka8, n8, kc8, wa8, m8, wc8, rfl, hl8, hgc⟩)
          refine hK.out _ _ ⟨?_, ?_⟩ ?_
          · ((try dsimp only); exact Grows.same (hgS.trans (by repeat' (first | (with_reducible exact hgc) | (with_reducible exact Grows.refl _) | (with_reducible refine Grows.alloc ?_ _) | (with_reducible refine Grows.drew ?_) | (with_reducible refine Grows.ext ?_ _ _)))) _)
          · ((try dsimp only); exact Grows.same (hgS.trans (by repeat' (first | (with_reducible exact hgc) | (with_reducible exact Grows.refl _) | (with_reducible refine Grows.alloc ?_ _) | (with_reducible refine Grows.drew ?_) | (with_reducible refine Grows.ext ?_ _ _)))) _)
          clear hK K hHeld
          intro hHeld
          try simp only [Act.put, List.getElem_toArray, List.getElem_cons_succ, List.getElem_cons_zero, List.setIfInBounds_toArray, List.set_cons_zero, List.set_cons_succ]
          refine abs_anyB (fun W' => Grows X535 W' ∧ LayAt (But3 w.heap.size S) W' (addL (O m) z y) (.slice ka8 n8 kc8) (.slice wa8 m8 wc8)) ⟨(by repeat' (first | (with_reducible exact hgc) | (with_reducible exact Grows.refl _) | (with_reducible refine Grows.alloc ?_ _) | (with_reducible refine Grows.drew ?_) | (with_reducible refine Grows.ext ?_ _ _))), hl8⟩ ?_
          clear hHeld
          rintro X536 ⟨hgn, hex⟩
          have HL7 := Lib.hid (HL7.out.grows hgn)
          have HL8 := Lib.hid hex
          have hgS := hgS.trans hgn
          have hsS := hgS.size
          clear hgn hex
          have hHeld := And.intro (Grows.same hgS (fun b => b ≠ w.heap.size + 1 + 1)) (Grows.same hgS (fun _ => True))
          refine anyB_over (i := 14) (by kernel_rfl) rfl (by kernel_rfl) (fun K hK => ?_)
          simp only [List.getElem_toArray, List.getElem_cons_succ, List.getElem_cons_zero]
          obtain ⟨b0, b1, b2, b3⟩ := (HAO.out.grows hgS).four
          obtain ⟨f0, f1, f2, f3⟩ := (HAO.out.grows hgS).four'
          have hlo := (HAO.out.grows hgS).lt
          go_simp
          skip
          refine hK.out _ _ ?_ ?_
          · ((try dsimp only); exact (by repeat' (first | (with_reducible exact hT8) | (with_reducible exact Grows.same hgS _) | (with_reducible exact Grows.same (hgS.trans hgc) _) | (with_reducible refine Same.trans ?_ (same_set (fun h => Ne.irrefl h))))))
          clear hK K hHeld
          intro hHeld
          try simp only [Act.put, List.getElem_toArray, List.getElem_cons_succ, List.getElem_cons_zero, List.setIfInBounds_toArray, List.set_cons_zero, List.set_cons_succ]
          refine anyB_done (by kernel_rfl) ?_ _
          try clear hHeld
          refine abs_exit (fun W => Grows w W ∧ LayAt (But3 w.heap.size S) W (addL (O m) z y) (.slice ka8 n8 kc8) (.slice wa8 m8 wc8) ∧ Blk W w.heap.size 25 #[.int .i64 k, .int .i64 p, .slice (some ⟨b, off, none⟩) ks.length cap, .slice (some ⟨bw, ow, none⟩) ks.length wc] ∧ Blk W (w.heap.size + 1) 25 #[.int .i64 0, .int .i64 0, .slice none 0 0, .slice none 0 0] ∧ Blk W (w.heap.size + 1 + 1) 25 #[.int .i64 k, .int .i64 0, .slice ka8 n8 kc8, .slice wa8 m8 wc8]) ⟨(HG1.out.trans hgS).set4 (by omega) _ _ _ _, HL8.out.same (but3_set4 (by omega) _ _ _ _), (((HA0.out.grows hgS).other (by omega)).other (by omega)).other (by omega) |>.other (by omega), (((HA1.out.grows hgS).other (by omega)).other (by omega)).other (by omega) |>.other (by omega), (HAO.out.grows hgS).set4⟩ ?_
          rintro W5 ⟨hg5, hl5, hb5, hb6, hb7⟩
          go_wp2_with fail
          go_roundw
          case rel => exact ⟨m + 1, _, _, _, _, _, _, _, rfl, by omega, by go_num, by rw [HST.out]; exact hl5, hg5, hb5, hb6, hb7⟩
          case measure => simp [intOf]; omega
        · have c1 : (x.kind != 1) = true := by simpa using h1
          clear hc h1
          go_upto_region 8 with fail
          clear a0 a1 a2 a3 b0 b1 b2 b3 hl0 hlob e0 e1 e4 e3 hb
          have HFS537 := Lib.hid fun w' (hSw : Same (fun _ => True) wv w') => And.intro ((HA0.out.same hSw trivial).four) (And.intro ((HAO.out.same hSw trivial).four) (And.intro ((hSw.cell HEW.out.1 trivial).trans HEW.out.2) (And.intro ((hSw.cell (i := off + m * 4) HE.out.1 HE.out.2.1).trans HE.out.2.2.1) (And.intro ((hSw.cell (i := off + m * 4 + 1) HE.out.1 HE.out.2.1).trans HE.out.2.2.2.1) (And.intro ((hSw.cell (i := off + m * 4 + 2) HE.out.1 HE.out.2.1).trans HE.out.2.2.2.2.1) (And.intro ((hSw.cell (i := off + m * 4 + 3) HE.out.1 HE.out.2.1).trans HE.out.2.2.2.2.2) (And.intro (Nat.lt_of_lt_of_le HE.out.1 hSw.size) (And.intro ((HA0.out.same hSw trivial).lt) (And.intro ((HAO.out.same hSw trivial).lt) (Nat.lt_of_lt_of_le HEW.out.1 hSw.size))))))))))
          have hgS := Grows.refl wv
          refine wp_region_B [14] (fun w' => Same (fun b => b ≠ w.heap.size + 1 + 1) wv w') (fun w' => Same (fun _ => True) wv w') (by kernel_rfl) ⟨Grows.same (hgS.trans (by repeat' (first | (with_reducible exact hgc) | (with_reducible exact Grows.refl _) | (with_reducible refine Grows.alloc ?_ _) | (with_reducible refine Grows.drew ?_) | (with_reducible refine Grows.ext ?_ _ _)))) _, Grows.same (hgS.trans (by repeat' (first | (with_reducible exact hgc) | (with_reducible exact Grows.refl _) | (with_reducible refine Grows.alloc ?_ _) | (with_reducible refine Grows.drew ?_) | (with_reducible refine Grows.ext ?_ _ _)))) _⟩ (fun hHeld => ?_)
          refine abs_anyB (fun W' => Grows wv W' ∧ True) ⟨(by repeat' (first | (with_reducible exact hgc) | (with_reducible exact Grows.refl _) | (with_reducible refine Grows.alloc ?_ _) | (with_reducible refine Grows.drew ?_) | (with_reducible refine Grows.ext ?_ _ _))), trivial⟩ ?_
          clear hHeld
          rintro X538 ⟨hgn, hex⟩
          have hgS := hgS.trans hgn
          have hsS := hgS.size
          clear hgn hex
          have hHeld := And.intro (Grows.same hgS (fun b => b ≠ w.heap.size + 1 + 1)) (Grows.same hgS (fun _ => True))
          refine anyB_take (i := 0) (v := ?v539_0) rfl (by kernel_rfl) (by kernel_rfl) (by kernel_rfl) (by kernel_rfl) (fun _ _ _ h => h) (Or.inl ⟨by kernel_rfl, ?y539_0⟩) (by kernel_rfl) hHeld ?r539_0
          case y539_0 => ((rintro w ⟨hTw, hSw⟩; obtain ⟨⟨a0, a1, a2, a3⟩, ⟨b0, b1, b2, b3⟩, ew, e0', e1', e2', e3', hbb, hl0, hlo, hbw⟩ := HFS537.out _ hSw; clear hSw hTw; go_simp); (try go_ints); (try with_reducible rfl))
          try simp only [Act.put, List.getElem_toArray, List.getElem_cons_zero, List.setIfInBounds_toArray, List.set_cons_zero, List.set_cons_succ]
          refine anyB_take (i := 1) (v := ?v540_1) rfl (by kernel_rfl) (by kernel_rfl) (by kernel_rfl) (by kernel_rfl) (fun _ _ _ h => h) (Or.inl ⟨by kernel_rfl, ?y540_1⟩) (by kernel_rfl) hHeld ?r540_1
          case y540_1 => ((rintro w ⟨hTw, hSw⟩; obtain ⟨⟨a0, a1, a2, a3⟩, ⟨b0, b1, b2, b3⟩, ew, e0', e1', e2', e3', hbb, hl0, hlo, hbw⟩ := HFS537.out _ hSw; clear hSw hTw; go_simp); (try go_ints); (try with_reducible rfl))
          try simp only [Act.put, List.getElem_toArray, List.getElem_cons_succ, List.getElem_cons_zero, List.setIfInBounds_toArray, List.set_cons_zero, List.set_cons_succ]
          refine anyB_take (i := 2) (v := ?v541_2) rfl (by kernel_rfl) (by kernel_rfl) (by kernel_rfl) (by kernel_rfl) (fun _ _ _ h => h) (Or.inl ⟨by kernel_rfl, ?y541_2⟩) (by kernel_rfl) hHeld ?r541_2
          case y541_2 => ((rintro w ⟨hTw, hSw⟩; obtain ⟨⟨a0, a1, a2, a3⟩, ⟨b0, b1, b2, b3⟩, ew, e0', e1', e2', e3', hbb, hl0, hlo, hbw⟩ := HFS537.out _ hSw; clear hSw hTw; go_simp); (try go_ints); (try with_reducible rfl))
          try simp only [Act.put, List.getElem_toArray, List.getElem_cons_succ, List.getElem_cons_zero, List.setIfInBounds_toArray, List.set_cons_zero, List.set_cons_succ]
          refine anyB_take (i := 3) (v := ?v542_3) rfl (by kernel_rfl) (by kernel_rfl) (by kernel_rfl) (by kernel_rfl) (fun _ _ _ h => h) (Or.inl ⟨by kernel_rfl, ?y542_3⟩) (by kernel_rfl) hHeld ?r542_3
          case y542_3 => ((rintro w ⟨hTw, hSw⟩; obtain ⟨⟨a0, a1, a2, a3⟩, ⟨b0, b1, b2, b3⟩, ew, e0', e1', e2', e3', hbb, hl0, hlo, hbw⟩ := HFS537.out _ hSw; clear hSw hTw; go_simp); (try go_ints); (try with_reducible rfl))
          try simp only [Act.put, List.getElem_toArray, List.getElem_cons_succ, List.getElem_cons_zero, List.setIfInBounds_toArray, List.set_cons_zero, List.set_cons_succ]
          refine anyB_take (i := 4) (v := ?v543_4) rfl (by kernel_rfl) (by kernel_rfl) (by kernel_rfl) (by kernel_rfl) (fun _ _ _ h => h) (Or.inl ⟨by kernel_rfl, ?y543_4⟩) (by kernel_rfl) hHeld ?r543_4
          case y543_4 => ((rintro w ⟨hTw, hSw⟩; obtain ⟨⟨a0, a1, a2, a3⟩, ⟨b0, b1, b2, b3⟩, ew, e0', e1', e2', e3', hbb, hl0, hlo, hbw⟩ := HFS537.out _ hSw; clear hSw hTw; go_simp); (try go_ints); (try with_reducible rfl))
          try simp only [Act.put, List.getElem_toArray, List.getElem_cons_succ, List.getElem_cons_zero, List.setIfInBounds_toArray, List.set_cons_zero, List.set_cons_succ]
          refine anyB_take (i := 5) (v := ?v544_5) rfl (by kernel_rfl) (by kernel_rfl) (by kernel_rfl) (by kernel_rfl) (fun _ _ _ h => h) (Or.inl ⟨by kernel_rfl, ?y544_5⟩) (by kernel_rfl) hHeld ?r544_5
          case y544_5 => ((rintro w ⟨hTw, hSw⟩; obtain ⟨⟨a0, a1, a2, a3⟩, ⟨b0, b1, b2, b3⟩, ew, e0', e1', e2', e3', hbb, hl0, hlo, hbw⟩ := HFS537.out _ hSw; clear hSw hTw; go_simp); (try go_ints); (try with_reducible rfl))
          try simp only [Act.put, List.getElem_toArray, List.getElem_cons_succ, List.getElem_cons_zero, List.setIfInBounds_toArray, List.set_cons_zero, List.set_cons_succ]
          refine anyB_take (i := 6) (v := ?v545_6) rfl (by kernel_rfl) (by kernel_rfl) (by kernel_rfl) (by kernel_rfl) (fun _ _ _ h => h) (Or.inl ⟨by kernel_rfl, ?y545_6⟩) (by kernel_rfl) hHeld ?r545_6
          case y545_6 => ((rintro w ⟨hTw, hSw⟩; obtain ⟨⟨a0, a1, a2, a3⟩, ⟨b0, b1, b2, b3⟩, ew, e0', e1', e2', e3', hbb, hl0, hlo, hbw⟩ := HFS537.out _ hSw; clear hSw hTw; go_simp); (try go_ints); (try with_reducible rfl))
          try simp only [Act.put, List.getElem_toArray, List.getElem_cons_succ, List.getElem_cons_zero, List.setIfInBounds_toArray, List.set_cons_zero, List.set_cons_succ]
          refine anyB_take (i := 8) (v := ?v546_8) rfl (by kernel_rfl) (by kernel_rfl) (by kernel_rfl) (by kernel_rfl) (fun _ _ _ h => h) (Or.inl ⟨by kernel_rfl, ?y546_8⟩) (by kernel_rfl) hHeld ?r546_8
          case y546_8 => ((rintro w ⟨hTw, hSw⟩; obtain ⟨⟨a0, a1, a2, a3⟩, ⟨b0, b1, b2, b3⟩, ew, e0', e1', e2', e3', hbb, hl0, hlo, hbw⟩ := HFS537.out _ hSw; clear hSw hTw; go_simp); (try go_ints); (try with_reducible rfl))
          try simp only [Act.put, List.getElem_toArray, List.getElem_cons_succ, List.getElem_cons_zero, List.setIfInBounds_toArray, List.set_cons_zero, List.set_cons_succ]
          refine anyB_take (i := 9) (v := ?v547_9) rfl (by kernel_rfl) (by kernel_rfl) (by kernel_rfl) (by kernel_rfl) (fun _ _ _ h => h) (Or.inl ⟨by kernel_rfl, ?y547_9⟩) (by kernel_rfl) hHeld ?r547_9
          case y547_9 => ((rintro w ⟨hTw, hSw⟩; obtain ⟨⟨a0, a1, a2, a3⟩, ⟨b0, b1, b2, b3⟩, ew, e0', e1', e2', e3', hbb, hl0, hlo, hbw⟩ := HFS537.out _ hSw; clear hSw hTw; go_simp); (try go_ints); (try with_reducible rfl))
          try simp only [Act.put, List.getElem_toArray, List.getElem_cons_succ, List.getElem_cons_zero, List.setIfInBounds_toArray, List.set_cons_zero, List.set_cons_succ]
          refine anyB_take (i := 10) (v := ?v548_10) rfl (by kernel_rfl) (by kernel_rfl) (by kernel_rfl) (by kernel_rfl) (fun _ _ _ h => h) (Or.inl ⟨by kernel_rfl, ?y548_10⟩) (by kernel_rfl) hHeld ?r548_10
          case y548_10 => ((rintro w ⟨hTw, hSw⟩; obtain ⟨⟨a0, a1, a2, a3⟩, ⟨b0, b1, b2, b3⟩, ew, e0', e1', e2', e3', hbb, hl0, hlo, hbw⟩ := HFS537.out _ hSw; clear hSw hTw; go_simp); (try go_ints); (try with_reducible rfl))
          try simp only [Act.put, List.getElem_toArray, List.getElem_cons_succ, List.getElem_cons_zero, List.setIfInBounds_toArray, List.set_cons_zero, List.set_cons_succ]
          refine anyB_take (i := 11) (v := ?v549_11) rfl (by kernel_rfl) (by kernel_rfl) (by kernel_rfl) (by kernel_rfl) (fun _ _ _ h => h) (Or.inl ⟨by kernel_rfl, ?y549_11⟩) (by kernel_rfl) hHeld ?r549_11
          case y549_11 => ((rintro w ⟨hTw, hSw⟩; obtain ⟨⟨a0, a1, a2, a3⟩, ⟨b0, b1, b2, b3⟩, ew, e0', e1', e2', e3', hbb, hl0, hlo, hbw⟩ := HFS537.out _ hSw; clear hSw hTw; go_simp); (try go_ints); (try with_reducible rfl))
          try simp only [Act.put, List.getElem_toArray, List.getElem_cons_succ, List.getElem_cons_zero, List.setIfInBounds_toArray, List.set_cons_zero, List.set_cons_succ]
          refine anyB_take (i := 12) (v := ?v550_12) rfl (by kernel_rfl) (by kernel_rfl) (by kernel_rfl) (by kernel_rfl) (fun _ _ _ h => h) (Or.inl ⟨by kernel_rfl, ?y550_12⟩) (by kernel_rfl) hHeld ?r550_12
          case y550_12 => ((rintro w ⟨hTw, hSw⟩; obtain ⟨⟨a0, a1, a2, a3⟩, ⟨b0, b1, b2, b3⟩, ew, e0', e1', e2', e3', hbb, hl0, hlo, hbw⟩ := HFS537.out _ hSw; clear hSw hTw; go_simp); (try go_ints); (try with_reducible rfl))
          try simp only [Act.put, List.getElem_toArray, List.getElem_cons_succ, List.getElem_cons_zero, List.setIfInBounds_toArray, List.set_cons_zero, List.set_cons_succ]
          refine anyB_ready (i := 7) (by kernel_rfl) rfl (fun K hK => ?_)
          simp only [List.getElem_toArray, List.getElem_cons_succ, List.getElem_cons_zero]
          go_simp
          (go_at_call 51; (go_must (with_reducible refine (HCS.out _ hgS).mono ?_)); rintro e w7 hE; obtain ⟨ka7, kc7, wa7, wc7, rfl, hl7, hgc⟩ := hE.open_)
          refine hK.out _ _ ⟨?_, ?_⟩ ?_
          · ((try dsimp only); exact Grows.same (hgS.trans (by repeat' (first | (with_reducible exact hgc) | (with_reducible exact Grows.refl _) | (with_reducible refine Grows.alloc ?_ _) | (with_reducible refine Grows.drew ?_) | (with_reducible refine Grows.ext ?_ _ _)))) _)
          · ((try dsimp only); exact Grows.same (hgS.trans (by repeat' (first | (with_reducible exact hgc) | (with_reducible exact Grows.refl _) | (with_reducible refine Grows.alloc ?_ _) | (with_reducible refine Grows.drew ?_) | (with_reducible refine Grows.ext ?_ _ _)))) _)
          clear hK K hHeld
          intro hHeld
          try simp only [Act.put, List.getElem_toArray, List.getElem_cons_succ, List.getElem_cons_zero, List.setIfInBounds_toArray, List.set_cons_zero, List.set_cons_succ]
          refine abs_anyB (fun W' => Grows X538 W' ∧ LayAt (But3 w.heap.size S) W' z (.slice ka7 z.kids.length kc7) (.slice wa7 z.ws.length wc7)) ⟨(by repeat' (first | (with_reducible exact hgc) | (with_reducible exact Grows.refl _) | (with_reducible refine Grows.alloc ?_ _) | (with_reducible refine Grows.drew ?_) | (with_reducible refine Grows.ext ?_ _ _))), hl7⟩ ?_
          clear hHeld
          rintro X551 ⟨hgn, hex⟩
          have HL7 := Lib.hid hex
          have hgS := hgS.trans hgn
          have hsS := hgS.size
          clear hgn hex
          have hHeld := And.intro (Grows.same hgS (fun b => b ≠ w.heap.size + 1 + 1)) (Grows.same hgS (fun _ => True))
          refine anyB_ready (i := 13) (by kernel_rfl) rfl (fun K hK => ?_)
          simp only [List.getElem_toArray, List.getElem_cons_succ, List.getElem_cons_zero]
          go_simp
          (go_at_call 76; (go_must (with_reducible refine (HADD.out _ hgS _ _ _ _ HL7.out).mono ?_)); rintro e w8 ⟨ka8, n8, kc8, wa8, m8, wc8, rfl, hl8, hgc⟩)
          refine hK.out _ _ ⟨?_, ?_⟩ ?_
          · ((try dsimp only); exact Grows.same (hgS.trans (by repeat' (first | (with_reducible exact hgc) | (with_reducible exact Grows.refl _) | (with_reducible refine Grows.alloc ?_ _) | (with_reducible refine Grows.drew ?_) | (with_reducible refine Grows.ext ?_ _ _)))) _)
          · ((try dsimp only); exact Grows.same (hgS.trans (by repeat' (first | (with_reducible exact hgc) | (with_reducible exact Grows.refl _) | (with_reducible refine Grows.alloc ?_ _) | (with_reducible refine Grows.drew ?_) | (with_reducible refine Grows.ext ?_ _ _)))) _)
          clear hK K hHeld
          intro hHeld
          try simp only [Act.put, List.getElem_toArray, List.getElem_cons_succ, List.getElem_cons_zero, List.setIfInBounds_toArray, List.set_cons_zero, List.set_cons_succ]
          refine abs_anyB (fun W' => Grows X551 W' ∧ LayAt (But3 w.heap.size S) W' (addL (O m) z y) (.slice ka8 n8 kc8) (.slice wa8 m8 wc8)) ⟨(by repeat' (first | (with_reducible exact hgc) | (with_reducible exact Grows.refl _) | (with_reducible refine Grows.alloc ?_ _) | (with_reducible refine Grows.drew ?_) | (with_reducible refine Grows.ext ?_ _ _))), hl8⟩ ?_
          clear hHeld
          rintro X552 ⟨hgn, hex⟩
          have HL7 := Lib.hid (HL7.out.grows hgn)
          have HL8 := Lib.hid hex
          have hgS := hgS.trans hgn
          have hsS := hgS.size
          clear hgn hex
          have hHeld := And.intro (Grows.same hgS (fun b => b ≠ w.heap.size + 1 + 1)) (Grows.same hgS (fun _ => True))
          refine anyB_over (i := 14) (by kernel_rfl) rfl (by kernel_rfl) (fun K hK => ?_)
          simp only [List.getElem_toArray, List.getElem_cons_succ, List.getElem_cons_zero]
          obtain ⟨b0, b1, b2, b3⟩ := (HAO.out.grows hgS).four
          obtain ⟨f0, f1, f2, f3⟩ := (HAO.out.grows hgS).four'
          have hlo := (HAO.out.grows hgS).lt
          go_simp
          skip
          refine hK.out _ _ ?_ ?_
          · ((try dsimp only); exact (by repeat' (first | (with_reducible exact hT8) | (with_reducible exact Grows.same hgS _) | (with_reducible exact Grows.same (hgS.trans hgc) _) | (with_reducible refine Same.trans ?_ (same_set (fun h => Ne.irrefl h))))))
          clear hK K hHeld
          intro hHeld
          try simp only [Act.put, List.getElem_toArray, List.getElem_cons_succ, List.getElem_cons_zero, List.setIfInBounds_toArray, List.set_cons_zero, List.set_cons_succ]
          refine anyB_done (by kernel_rfl) ?_ _
          try clear hHeld
          refine abs_exit (fun W => Grows w W ∧ LayAt (But3 w.heap.size S) W (addL (O m) z y) (.slice ka8 n8 kc8) (.slice wa8 m8 wc8) ∧ Blk W w.heap.size 25 #[.int .i64 k, .int .i64 p, .slice (some ⟨b, off, none⟩) ks.length cap, .slice (some ⟨bw, ow, none⟩) ks.length wc] ∧ Blk W (w.heap.size + 1) 25 #[.int .i64 0, .int .i64 0, .slice none 0 0, .slice none 0 0] ∧ Blk W (w.heap.size + 1 + 1) 25 #[.int .i64 k, .int .i64 0, .slice ka8 n8 kc8, .slice wa8 m8 wc8]) ⟨(HG1.out.trans hgS).set4 (by omega) _ _ _ _, HL8.out.same (but3_set4 (by omega) _ _ _ _), (((HA0.out.grows hgS).other (by omega)).other (by omega)).other (by omega) |>.other (by omega), (((HA1.out.grows hgS).other (by omega)).other (by omega)).other (by omega) |>.other (by omega), (HAO.out.grows hgS).set4⟩ ?_
          rintro W5 ⟨hg5, hl5, hb5, hb6, hb7⟩
          go_wp2_with fail
          go_roundw
          case rel => exact ⟨m + 1, _, _, _, _, _, _, _, rfl, by omega, by go_num, by rw [HST.out]; exact hl5, hg5, hb5, hb6, hb7⟩
          case measure => simp [intOf]; omega
    · have e : m = ks.length := by omega
      subst e
      obtain ⟨d0, d1, d2, d3⟩ := HA1.out.four
      obtain ⟨f0, f1, f2, f3⟩ := HA1.out.four'
      have hl1 := HA1.out.lt
      obtain ⟨r1, r2, r3, -⟩ := hlo.kids
      have hyn : (O ks.length).kids.length = yn := by
        obtain ⟨_, _, e, -⟩ := hlo.kids.shape rfl
        injection e with _ e _
        exact e.symm
      by_cases h1 : yn = 1
      · have c1 : ((yn : Int) == 1) = true := by simp; omega
        obtain ⟨ra', rc', G1, e9, -, -, hin9⟩ := hlo.kids.open_ hyn
        obtain ⟨rfl, -, rfl⟩ : ra = ra' ∧ True ∧ rc = rc' := by
          injection e9 with e1 e2 e3
          exact ⟨e1, trivial, e3⟩
        obtain ⟨b, off, x, ka, kn, kc, xa, xn, xc, rfl, hb, hbn, hx, hmem, -, -, e0, e1, e4, e3, hL⟩ := hin9.at_ (i := 0) (by omega)
        rw [Nat.zero_mul, Nat.add_zero] at e0 e1 e4 e3
        have HLA := Lib.hid (lastC_one (by rw [hyn]; exact h1) hx)
        have HLX := Lib.hid hL
        have hbn1 : b ≠ w.heap.size + 1 := by have := hbn.2; omega
        clear hlo hg hx hmem hL hin9 hyn r1 r2 r3 e9 hbn
        subst h1
        go_wp2_with fail
        rw [HLA.out]
        refine ret_cell (t := 25) (n := w.heap.size + 1) (cs := #[.int .i64 x.kind, .int .i64 x.pane, .slice ka kn kc, .slice xa xn xc]) rfl rfl ?_ Try.underlying25 rfl (by kernel_rfl) rfl ?_
        · exact HA1.out.set4
        · exact ⟨_, _, rfl, (HLX.out.same (but3_set4 (by omega) _ _ _ _)).unbut3, HG1.out.set4 (by omega) _ _ _ _⟩
      · have c1 : ((yn : Int) == 1) = false := by simp; omega
        have HLA := Lib.hid (lastC_no (l := O ks.length) (by rw [hyn]; exact h1))
        clear hlo hg hyn r1 r2 r3
        go_wp2_with fail
        rw [HLA.out]
        refine ret_cell (t := 25) (n := w.heap.size + 1) (cs := #[.int .i64 k, .int .i64 0, .slice ra yn rc, .slice rb zn rd]) rfl rfl ?_ Try.underlying25 rfl (by kernel_rfl) rfl ?_
        · exact HA1.out.set4
        · exact ⟨_, _, by rw [(HHD.out ks.length).1, (HHD.out ks.length).2], (HO1.out.same (but3_set4 (by omega) _ _ _ _)).unbut3, HG1.out.set4 (by omega) _ _ _ _⟩
end Go.Proofs.Ytbobpgegkmcapaa

