/-
  Walks: the reference's Tile.
-/
import Derived.Test.YtbobpgegkmcapaaRows
import Derived.Test.YtbobpgegkmcapaaM1
import Derived.Test.YtbobpgegkmcapaaM2
import Derived.Test.YtbobpgegkmcapaaM6
import Derived.Test.YtbobpgegkmcapaaM7
import Derived.Test.YtbobpgegkmcapaaM8
import Derived.Test.YtbobpgegkmcapaaM9
import Derived.Test.YtbobpgegkmcapaaM10
import Derived.WalkKit
import Derived.WalkSpells
import Derived.WalkLawsBesides
import Derived.Handy
import Derived.Laws.Rows
import Derived.Great.BuildSlice
import Derived.Deep.Heap
import Derived.IntWalk
import Derived.Lib.Hide
import Derived.Outline
import Derived.Deep.Light
import Derived.Deep.LoopGhost
import Derived.BigGuardPart
import Derived.BigQuiet
import Derived.Deep.QuietTactic
import Derived.Deep.RegionHeld3
import Derived.Deep.DeepCutAuto
import Derived.Deep.CutBlock
import Derived.OwnWalk
import Derived.Maps.AppendAt
import Derived.Laws.EntriesVeiled
import Derived.Great.Walk
import Derived.OneCell
namespace Go.Proofs.Ytbobpgegkmcapaa
open Go.RowKit

theorem Row3.set {B : Nat} {w : World} {v4 v5 v7 x : Value} {n4 n5 n7 n i : Nat} {ts us is : List Value} (h : Row3 B w v4 v5 v7 n4 n5 n7 ts us is) (hn : v4.ownBlock ≠ some n ∧ v5.ownBlock ≠ some n ∧ v7.ownBlock ≠ some n) : Row3 B (w.setCell ⟨n, i, none⟩ x) v4 v5 v7 n4 n5 n7 ts us is :=
  ⟨ownsRow_setCell_other h.t (a := ⟨n, i, none⟩) hn.1 x, ownsRow_setCell_other h.u (a := ⟨n, i, none⟩) hn.2.1 x, ownsRow_setCell_other h.i (a := ⟨n, i, none⟩) hn.2.2 x, h.tu, h.ti, h.ui⟩
theorem rtile_leaf (p row col rows cols : Int) (a wa : Option Addr) (kn cap wn wc : Nat) (w : World) : Calls Try.prog 13 #[.agg #[.int .i64 1, .int .i64 p, .slice a kn cap, .slice wa wn wc], .agg #[.int .i64 row, .int .i64 col, .int .i64 rows, .int .i64 cols]] w (fun e w' => TileRes w w' ([⟨p, ⟨row, col, rows, cols⟩⟩], []) e) := by
  go_enter Try.func13, Try.ntmps13
  go_wp2
  go_returns
  refine ⟨_, _, rfl, ?_, ?_, (fun b e => by cases e), (by repeat' (first | (with_reducible exact Grows.refl _) | (with_reducible refine Grows.alloc ?_ _) | (with_reducible refine Grows.drew ?_) | (with_reducible refine Grows.ext ?_ _ _)))⟩
  · rw [tilC_single]
    exact cells_new5 (by simp) rfl rfl
  · exact ⟨rfl, none, 0, rfl, Nat.le_refl _, fun h => absurd rfl h⟩
theorem along2 (l : Lay) : alongM 2 l = colsL l := by simp [alongM, alongL]
theorem along3 (l : Lay) : alongM 3 l = rowsL l := by simp [alongM, alongL]
theorem part2 (row col rows cols o n : Int) : partR 2 ⟨row, col, rows, cols⟩ o n = ⟨row, col + o, rows, n⟩ := by simp [partR]
theorem part3 (row col rows cols o n : Int) : partR 3 ⟨row, col, rows, cols⟩ o n = ⟨row + o, col, n, cols⟩ := by simp [partR]
set_option maxRecDepth 100000 in
set_option maxHeartbeats 4000000 in
theorem rtile_2 {S : Nat → Prop} (p : Int) (ks : List Lay) (ws : List Int) (hok : okTree (.mk 2 p ks ws) = true) (hn : (panesL (.mk 2 p ks ws)).length ≤ 1000) (row col rows cols : Int) (h0 : 0 ≤ row ∧ 0 ≤ col) (hc : cols ≤ 10000 ∧ col + cols ≤ 30000) (hr : rows ≤ 10000 ∧ row + rows ≤ 30000)
    (hf : fitsR (.mk 2 p ks ws) ⟨row, col, rows, cols⟩) (vk vw : Value) (w : World) (h : LayAt S w (.mk 2 p ks ws) vk vw)
    (ih : ∀ x ∈ ks, okTree x = true → (panesL x).length ≤ 1000 → ∀ (row col rows cols : Int), (0 ≤ row ∧ 0 ≤ col) → (cols ≤ 10000 ∧ col + cols ≤ 30000) → (rows ≤ 10000 ∧ row + rows ≤ 30000) → fitsR x ⟨row, col, rows, cols⟩ → ∀ (vk vw : Value) (w : World), LayAt S w x vk vw → Calls Try.prog 13 #[.agg #[.int .i64 x.kind, .int .i64 x.pane, vk, vw], .agg #[.int .i64 row, .int .i64 col, .int .i64 rows, .int .i64 cols]] w (fun e w' => TileRes w w' (tileL x ⟨row, col, rows, cols⟩) e)) :
    Calls Try.prog 13 #[.agg #[.int .i64 2, .int .i64 p, vk, vw], .agg #[.int .i64 row, .int .i64 col, .int .i64 rows, .int .i64 cols]] w (fun e w' => TileRes w w' (tileL (.mk 2 p ks ws) ⟨row, col, rows, cols⟩) e) := by
  obtain ⟨i29, hi29, hz29, hs29, hb29⟩ := info_parts info41
  obtain ⟨i30, hi30, hz30, hs30, hb30⟩ := info_parts info44
  have hk : ¬ (2 : Int) = 1 := by decide
  obtain ⟨-, -, h2, hwl, -, hwr, hkok⟩ := split_facts hok hk
  have hmb := min_bounds _ hok
  have hlen : (panesL (.mk 2 p ks ws)).length = ((ks.map panesL).flatten).length := by rw [panesL_mk, if_neg hk]
  have hks := len_kids (ks := ks) hkok
  obtain ⟨a, cap, G, rfl, hcap, hmx, hin⟩ := h.kids.open_ rfl
  obtain ⟨wa, wc, rfl, -, -, hiw⟩ := h.ints.open_ hwl
  dsimp only [Lay.kids, Lay.ws] at hcap hmx hin h hiw ⊢
  have hrest := rest_nonneg hf
  have hfc := hf.1
  have hfr := hf.2
  dsimp only at hfc hfr
  have hrc1 : 1 ≤ cols ∧ 1 ≤ rows := by omega
  obtain ⟨mc, hmc⟩ : ∃ z, colsL (.mk 2 p ks ws) = z := ⟨_, rfl⟩
  obtain ⟨mr, hmr⟩ : ∃ z, rowsL (.mk 2 p ks ws) = z := ⟨_, rfl⟩
  have hre : restL (.mk 2 p ks ws) ⟨row, col, rows, cols⟩ = cols - mc := by
    rw [← hmc]
    simp [restL, alongM, alongL, Lay.kind]
  have HM := Lib.hid fun W (g : Grows w W) => rminimum_any _ hok hn _ _ W (h.grows g)
  rw [hmc, hmr] at HM hmb
  rw [hmc] at hfc
  rw [hmr] at hfr
  rw [hre] at hrest
  have HSH := Lib.hid fun W (g : Grows w W) (i : Nat) (hi : i < ks.length) => share_any _ ws i (cols - mc) W (h.ints.grows g) hwr (show ws.length ≤ 1000 by omega) (show i < ws.length by omega) hrest (by omega)
  have HMK := Lib.hid fun (x : Lay) (hx : x ∈ ks) => rminimum_any (S := S) x (hkok x hx) (by have := len_mem hx; omega)
  have HKB := Lib.hid fun (x : Lay) (hx : x ∈ ks) => (show (0 ≤ colsL x ∧ colsL x ≤ 3000) ∧ (0 ≤ rowsL x ∧ rowsL x ≤ 3000) by have := min_bounds x (hkok x hx); have := len_mem hx; omega)
  have HLA := Lib.hid fun (i : Nat) (x : Lay) (hx : ks[i]? = some x) => (show (lensOf (.mk 2 p ks ws) ⟨row, col, rows, cols⟩)[i]? = some (colsL x + (shareL ws (cols - mc) (i + 1) - shareL ws (cols - mc) i)) by rw [← along2, ← hre]; exact lens_at hx)
  have HKID := Lib.hid fun (i : Nat) (x : Lay) (hx : ks[i]? = some x) => kid_place hok hk hf hx
  have HFIT := Lib.hid fun (i : Nat) (x : Lay) (hx : ks[i]? = some x) => kid_fits hok hk hf hx
  have HPRE := Lib.hid fun (m : Nat) => pre_le hok hk ⟨row, col, rows, cols⟩ m
  have HSN := Lib.hid fun (m : Nat) (x : Lay) (hx : ks[m]? = some x) => pre_snoc (l := .mk 2 p ks ws) (r := ⟨row, col, rows, cols⟩) (m := m) (x := x) hx
  have HUS := Lib.hid fun (m : Nat) (hm : m < ks.length) (h0 : 0 < m) => preU_snoc (l := .mk 2 p ks ws) (r := ⟨row, col, rows, cols⟩) (m := m) hm h0
  have HUL := Lib.hid fun (m : Nat) (hm : m ≤ ks.length) => preU_len (.mk 2 p ks ws) ⟨row, col, rows, cols⟩ m hm
  have HIH := Lib.hid fun (x : Lay) (hx : x ∈ ks) => ih x hx (hkok x hx) (by have := len_mem hx; omega)
  have HZ := Lib.hid (pre_zero (.mk 2 p ks ws) ⟨row, col, rows, cols⟩)
  have HU1 := Lib.hid (preU_one (.mk 2 p ks ws) ⟨row, col, rows, cols⟩)
  have HIN := Lib.hid hin
  have hkn : ks.length ≤ 1000 := by omega
  have HLL := Lib.hid (show (lensOf (.mk 2 p ks ws) ⟨row, col, rows, cols⟩).length = ks.length from lens_len _ _ _ _)
  rw [tile_whole hk]
  dsimp only [Lay.kind] at HSN HUS
  dsimp only [Lay.kind, Lay.pane] at HM
  have HOF := Lib.hid fun (i : Nat) => (show offL (lensOf (.mk 2 p ks ws) ⟨row, col, rows, cols⟩) i = sumI ((lensOf (.mk 2 p ks ws) ⟨row, col, rows, cols⟩).take i) + i from rfl)
  clear hin h ih hkok hok hf hlen hks hk hre hwl hwr hiw hmc hmr
  generalize lensOf (.mk 2 p ks ws) ⟨row, col, rows, cols⟩ = lens at *
  generalize preT (.mk 2 p ks ws) ⟨row, col, rows, cols⟩ = pT at *
  generalize preI (.mk 2 p ks ws) ⟨row, col, rows, cols⟩ = pI at *
  generalize preU (.mk 2 p ks ws) ⟨row, col, rows, cols⟩ = pU at *
  generalize (panesL (.mk 2 p ks ws)).length = np at *
  generalize shareL ws (cols - mc) = sL at *
  go_enter Try.func13, Try.ntmps13
  go_upto_region 1 with fail
  refine abs_worldM (fun W => Grows w W ∧ Blk W w.heap.size 25 #[.int .i64 2, .int .i64 p, .slice a ks.length cap, .slice wa ks.length wc] ∧ Blk W (w.heap.size + 1) 27 #[.int .i64 row, .int .i64 col, .int .i64 rows, .int .i64 cols]) ?_ ?_
  · exact boxes2 _ _ _
  rintro W0 ⟨hg0, hb0, hb1⟩
  obtain ⟨c0, c1, c2, c3⟩ := hb0.four
  obtain ⟨a0, a1, a2, a3⟩ := hb1.four
  have hl0 := hb0.lt
  have hl1 := hb1.lt
  have HB0 := Lib.hid hb0
  have HB1 := Lib.hid hb1
  have HG0 := Lib.hid hg0
  clear hb0 hb1 hg0
  go_upto_region 6 with (go_at_call 43; (with_reducible refine (HM.out _ (HG0.out.trans (by repeat' (first | (with_reducible exact Grows.refl _) | (with_reducible refine Grows.alloc ?_ _) | (with_reducible refine Grows.drew ?_) | (with_reducible refine Grows.ext ?_ _ _))))).mono ?_); rintro e wq ⟨rfl, hq⟩)
  refine abs_worldM (fun W => Grows W0 W ∧ Blk W wq.heap.size 84 #[.int .i64 mc, .int .i64 mr]) ⟨Grows.trans (Grows.trans (by repeat' (first | (with_reducible exact Grows.refl _) | (with_reducible refine Grows.alloc ?_ _) | (with_reducible refine Grows.drew ?_) | (with_reducible refine Grows.ext ?_ _ _))) hq) (by repeat' (first | (with_reducible exact Grows.refl _) | (with_reducible refine Grows.alloc ?_ _) | (with_reducible refine Grows.drew ?_) | (with_reducible refine Grows.ext ?_ _ _))), Blk.new (by simp)⟩ ?_
  clear hq HM c0 c1 c2 c3 a0 a1 a2 a3 hl0 hl1
  generalize wq.heap.size = pm at *
  rintro W1 ⟨hg1, hbm⟩
  obtain ⟨B, hBe⟩ : ∃ z, W1.heap.size = z := ⟨_, rfl⟩
  have HG1 := Lib.hid hg1
  have HBM := Lib.hid hbm
  have HF := Lib.hid fun W (g : Grows W1 W) => (⟨(HB0.out.grows (hg1.trans g)).four, (HB1.out.grows (hg1.trans g)).four, (HB0.out.grows (hg1.trans g)).lt, (HB1.out.grows (hg1.trans g)).lt, (hbm.grows g).two.1, (hbm.grows g).two.2.1, (hbm.grows g).lt, g.size⟩ : (_ ∧ _ ∧ _ ∧ _) ∧ (_ ∧ _ ∧ _ ∧ _) ∧ _ ∧ _ ∧ _ ∧ _ ∧ _ ∧ _)
  have HIN1 := Lib.hid (HIN.out.grows (HG0.out.trans hg1))
  clear hg1 HIN hbm
  go_wp2_with fail
  go_loopw [6, 7, 8, 10, 11] (fun v6 v7 v8 o i wr => ∃ m : Nat, ∃ wv : World, wv = wr ∧ m ≤ ks.length ∧ i = .int .i64 m ∧ o = .int .i64 (sumI (lens.take m) + ((m - 1 : Nat) : Int)) ∧ Row3 B wv v6 v7 v8 (pT m).length (pU m).length (pI m).length (tilC (pT m)) (rulC (pU m)) (rulC (pI m)) ∧ Grows W1 wv) (fun _ _ _ _ i _ => ks.length - (intOf i).toNat)
  case atStart =>
    obtain ⟨z1, z2, z3⟩ := HZ.out
    exact ⟨0, _, rfl, Nat.zero_le _, rfl, rfl, by rw [z1, z2, z3]; exact Row3.nil _ _, Grows.refl _⟩
  case round =>
    obtain ⟨m, wv, rfl, hm, rfl, rfl, hro, hg⟩ := hrel
    have hof := HOF.out m
    have hpre := HPRE.out m
    have hul : (pU m).length ≤ 1000 := by have := HUL.out m hm; omega
    have HG := Lib.hid hg
    have HRO := Lib.hid hro
    obtain ⟨⟨c0, c1, c2, c3⟩, ⟨a0, a1, a2, a3⟩, hl0, hl1, m0, m1, hlm, hsz⟩ := HF.out _ hg
    by_cases hlt : m < ks.length
    · obtain ⟨b, off, x, ka, kn, kc, xa, xn, xc, rfl, hb, -, hx, hmem, -, -, e0, e1, e4, e3, hL⟩ := HIN1.out.at_ hlt
      have HE := Lib.hid fun W (g : Grows W1 W) => (⟨(g.cellOf hb).trans e0, (g.cellOf hb).trans e1, (g.cellOf hb).trans e4, (g.cellOf hb).trans e3, Nat.lt_of_lt_of_le hb g.size⟩ : _ ∧ _ ∧ _ ∧ _ ∧ _)
      clear e0 e1 e4 e3 hb
      obtain ⟨e0, e1, e4, e3, hb⟩ := HE.out _ hg
      have HMX := Lib.hid fun W (g : Grows W1 W) => HMK.out x hmem _ _ W (hL.grows g)
      have HSM := Lib.hid fun W (g : Grows w W) => HSH.out W g m hlt
      have hkb := HKB.out x hmem
      obtain ⟨n', hn2, -, hp1, hp2, hp3, -⟩ := HKID.out m x hx
      have hn1 := HLA.out m x hx
      obtain rfl := Option.some.inj (hn1.symm.trans hn2)
      obtain ⟨hft, hins⟩ := HFIT.out m x hx
      obtain ⟨s1, s2⟩ := HSN.out m x hx
      have hus := HUS.out m hlt
      obtain ⟨xw, hxw⟩ : ∃ z, colsL x = z := ⟨_, rfl⟩
      obtain ⟨xh, hxh⟩ : ∃ z, rowsL x = z := ⟨_, rfl⟩
      obtain ⟨sh, hsh⟩ : ∃ z, sL (m + 1) - sL m = z := ⟨_, rfl⟩
      rw [hxw, hxh] at HMX hkb
      rw [hxw, hsh] at hn1 hp1 hp3
      rw [hsh] at HSM
      have hpart : partL 2 lens ⟨row, col, rows, cols⟩ m = ⟨row, col + offL lens m, rows, xw + sh⟩ := by unfold partL; rw [hn1, ← part2]; rfl
      have hsm : sumI (lens.take (m + 1)) = sumI (lens.take m) + (xw + sh) := by rw [take_snoc hn1, sumI_snoc]
      have hpre2 := HPRE.out (m + 1)
      unfold ruleL at hus
      rw [part2] at hus
      rw [hpart] at s1 s2 hft hins
      obtain ⟨oo, hoo⟩ : ∃ z, offL lens m = z := ⟨_, rfl⟩
      rw [hoo] at s1 s2 hft hins hp2 hp3 hof hus
      rw [s1, s2, List.length_append, List.length_append] at hpre2
      have hal : alongL 2 cols rows ≤ 10000 := by unfold alongL; split <;> omega
      try dsimp only at hp3
      obtain ⟨j1, j2, j3, j4⟩ := hins
      try dsimp only at j1 j2 j3 j4
      have HC := Lib.hid fun W (g : Grows W1 W) => HIH.out x hmem _ _ _ _ (by omega) (by omega) (by omega) hft _ _ W (hL.grows g)
      obtain ⟨q, hq⟩ : ∃ z, tileL x ⟨row, col + oo, rows, xw + sh⟩ = z := ⟨_, rfl⟩
      rw [hq] at HC hpre2 s1 s2
      obtain ⟨o, ho⟩ : ∃ z, sumI (lens.take m) + ((m - 1 : Nat) : Int) = z := ⟨_, rfl⟩
      have hnx : sumI (lens.take (m + 1)) + ((m + 1 - 1 : Nat) : Int) = oo + (xw + sh) := by omega
      rw [ho]
      have hoo2 : 0 ≤ oo ∧ oo ≤ 10000 := by omega
      have hn9 : 1 ≤ xw + sh ∧ xw + sh ≤ 10000 := by omega
      have HS := Lib.hid (And.intro s1 s2)
      have HNX := Lib.hid hnx
      clear s1 s2 hft j1 j2 j3 j4 hx hmem hL hpart hnx hn1 hn2 hq hxw hxh hsh hp3
      go_upto_region 12 with (go_at_call 43; (with_reducible refine (HMX.out _ (HG.out.trans (by repeat' (first | (with_reducible exact Grows.refl _) | (with_reducible refine Grows.alloc ?_ _) | (with_reducible refine Grows.drew ?_) | (with_reducible refine Grows.ext ?_ _ _))))).mono ?_); rintro e wq ⟨rfl, hq'⟩; have hgq : Grows wv wq := Grows.trans (by repeat' (first | (with_reducible exact Grows.refl _) | (with_reducible refine Grows.alloc ?_ _) | (with_reducible refine Grows.drew ?_) | (with_reducible refine Grows.ext ?_ _ _))) hq'; clear hq'; obtain ⟨⟨c0, c1, c2, c3⟩, ⟨a0, a1, a2, a3⟩, hl0, hl1, m0, m1, hlm, hsz'⟩ := HF.out _ (HG.out.trans hgq))
      have hsq := hgq.size
      refine abs_worldM (fun W => Grows wv W ∧ Blk W wq.heap.size 84 #[.int .i64 xw, .int .i64 xh] ∧ Blk W (wq.heap.size + 1) 27 #[.int .i64 row, .int .i64 col, .int .i64 rows, .int .i64 cols]) ⟨hgq.trans (by repeat' (first | (with_reducible exact Grows.refl _) | (with_reducible refine Grows.alloc ?_ _) | (with_reducible refine Grows.drew ?_) | (with_reducible refine Grows.ext ?_ _ _))), (Blk.new (w := wq) rfl).grows ((Grows.refl _).alloc _), Blk.new (by simp)⟩ ?_
      clear c0 c1 c2 c3 a0 a1 a2 a3 hl0 hl1 m0 m1 hlm e0 e1 e4 e3 hb
      obtain ⟨p2, hp2e⟩ : ∃ z, wq.heap.size = z := ⟨_, rfl⟩
      rw [hp2e]
      rintro W3 ⟨hg3, hb12, hb13⟩
      have hgx := HG.out.trans hg3
      have HR3 := Lib.hid (HRO.out.grows hg3)
      have HB12 := Lib.hid hb12
      have HB13 := Lib.hid hb13
      have hlt6 := fun b e => (HRO.out.t.lt b e).2
      have hlt7 := fun b e => (HRO.out.u.lt b e).2
      have hlt8 := fun b e => (HRO.out.i.lt b e).2
      have hp2g : wv.heap.size ≤ p2 := by omega
      have HLT := Lib.hid (And.intro hlt6 (And.intro hlt7 hlt8))
      clear hlt6 hlt7 hlt8 hp2e hro hg hgq hsq hsz' hg3 hb12 hb13
      by_cases hm0 : m < 1
      · have e : oo = o := by omega
        subst e
        have hu : pU (m + 1) = pU m := by
          obtain rfl : m = 0 := by omega
          rw [HZ.out.2.1]
          exact HU1.out
        have HU := Lib.hid hu
        have HAP := Lib.hid (show u6.ownBlock ≠ some (p2 + 1) ∧ u7.ownBlock ≠ some (p2 + 1) ∧ u8.ownBlock ≠ some (p2 + 1) from ⟨fun e => by have := HLT.out.1 _ e; omega, fun e => by have := HLT.out.2.1 _ e; omega, fun e => by have := HLT.out.2.2 _ e; omega⟩)
        clear hu hof hsm hus HRO HLT
        obtain ⟨⟨c0, c1, c2, c3⟩, ⟨a0, a1, a2, a3⟩, hl0, hl1, m0, m1, hlm, hsz⟩ := HF.out _ hgx
        obtain ⟨x0, x1, -, -⟩ := HB12.out.two
        obtain ⟨y0, y1, y2, y3⟩ := HB13.out.four
        obtain ⟨z0, z1, z2, z3⟩ := HB13.out.four'
        have hl2 := HB12.out.lt
        have hl3 := HB13.out.lt
        go_upto_region 16 with fail
        go_upto_region 17 with fail
        refine abs_worldM (fun W => Grows W1 W ∧ Row3 B W u6 u7 u8 (pT m).length (pU m).length (pI m).length (tilC (pT m)) (rulC (pU m)) (rulC (pI m)) ∧ Blk W p2 84 #[.int .i64 xw, .int .i64 xh] ∧ Blk W (p2 + 1) 27 #[.int .i64 row, .int .i64 (col + oo), .int .i64 rows, .int .i64 cols]) ⟨hgx.setCell (by omega) _, HR3.out.set HAP.out, HB12.out.other (by omega), HB13.out.set 1 _⟩ ?_
        clear hgx c0 c1 c2 c3 a0 a1 a2 a3 hl0 hl1 m0 m1 hlm x0 x1 y0 y1 y2 y3 z0 z1 z2 z3 hl2 hl3 hsz
        rintro W6 ⟨hg6, hr6, hc12, hc13⟩
        have HG6 := Lib.hid hg6
        have HR6 := Lib.hid hr6
        have HC12 := Lib.hid hc12
        have HC13 := Lib.hid hc13
        have hs6 := hg6.size
        clear hg6 hr6 hc12 hc13 HR3 HB12 HB13
        have hgS := Grows.refl W6
        refine wp_region_B [13] (fun w' => Same (fun b => b ≠ (p2 + 1)) W6 w') (fun w' => Grows W6 w') (by kernel_rfl) ⟨(Grows.same (by exact hgS.trans (by repeat' (first | (with_reducible exact hgc) | (with_reducible exact Grows.refl _) | (with_reducible refine Grows.alloc ?_ _) | (with_reducible refine Grows.drew ?_) | (with_reducible refine Grows.ext ?_ _ _)))) _), (by exact hgS.trans (by repeat' (first | (with_reducible exact hgc) | (with_reducible exact Grows.refl _) | (with_reducible refine Grows.alloc ?_ _) | (with_reducible refine Grows.drew ?_) | (with_reducible refine Grows.ext ?_ _ _))))⟩ (fun hHeld => ?_)
        refine abs_anyB (fun W' => Grows W6 W' ∧ True) ⟨(by repeat' (first | (with_reducible exact hgc) | (with_reducible exact Grows.refl _) | (with_reducible refine Grows.alloc ?_ _) | (with_reducible refine Grows.drew ?_) | (with_reducible refine Grows.ext ?_ _ _))), trivial⟩ ?_
        clear hHeld
        rintro X304 ⟨hgn, hex⟩
        have hgS := hgS.trans hgn
        have hsS := hgS.size
        clear hgn hex
        have hHeld := And.intro (Grows.same (hgS) (fun b => b ≠ (p2 + 1))) hgS
        refine anyB_takeT (i := 0) (v := ?v305_0) rfl (by kernel_rfl) (by kernel_rfl) (by kernel_rfl) (by kernel_rfl) (fun _ _ _ h => h) (Or.inl ⟨by kernel_rfl, ?y305_0⟩) hHeld.1 (fun _ => hHeld.2) ?r305_0
        case y305_0 => ((intro w hTw; skip; clear hTw; go_simp); (try go_ints); (try with_reducible rfl))
        try simp only [Act.put, List.getElem_toArray, List.getElem_cons_zero, List.setIfInBounds_toArray, List.set_cons_zero, List.set_cons_succ]
        refine anyB_take (i := 1) (v := ?v306_1) rfl (by kernel_rfl) (by kernel_rfl) (by kernel_rfl) (by kernel_rfl) (fun _ _ _ h => h) (Or.inl ⟨by kernel_rfl, ?y306_1⟩) (by kernel_rfl) hHeld ?r306_1
        case y306_1 => ((rintro w ⟨hTw, hSw⟩; obtain ⟨⟨c0, c1, c2, c3⟩, ⟨a0, a1, a2, a3⟩, hl0, hl1, m0, m1, hlm, hsz⟩ := HF.out _ (HG6.out.trans hSw); obtain ⟨x0, x1, -, -⟩ := (HC12.out.grows hSw).two; have hl2 := (HC12.out.grows hSw).lt; clear hSw hTw; go_simp); (try go_ints); (try with_reducible rfl))
        try simp only [Act.put, List.getElem_toArray, List.getElem_cons_succ, List.getElem_cons_zero, List.setIfInBounds_toArray, List.set_cons_zero, List.set_cons_succ]
        refine anyB_takeT (i := 2) (v := ?v307_2) rfl (by kernel_rfl) (by kernel_rfl) (by kernel_rfl) (by kernel_rfl) (fun _ _ _ h => h) (Or.inl ⟨by kernel_rfl, ?y307_2⟩) hHeld.1 (fun _ => hHeld.2) ?r307_2
        case y307_2 => ((intro w hTw; skip; clear hTw; go_simp); (try go_ints); (try with_reducible rfl))
        try simp only [Act.put, List.getElem_toArray, List.getElem_cons_succ, List.getElem_cons_zero, List.setIfInBounds_toArray, List.set_cons_zero, List.set_cons_succ]
        refine anyB_take (i := 3) (v := ?v308_3) rfl (by kernel_rfl) (by kernel_rfl) (by kernel_rfl) (by kernel_rfl) (fun _ _ _ h => h) (Or.inl ⟨by kernel_rfl, ?y308_3⟩) (by kernel_rfl) hHeld ?r308_3
        case y308_3 => ((rintro w ⟨hTw, hSw⟩; obtain ⟨⟨c0, c1, c2, c3⟩, ⟨a0, a1, a2, a3⟩, hl0, hl1, m0, m1, hlm, hsz⟩ := HF.out _ (HG6.out.trans hSw); obtain ⟨x0, x1, -, -⟩ := (HC12.out.grows hSw).two; have hl2 := (HC12.out.grows hSw).lt; clear hSw hTw; go_simp); (try go_ints); (try with_reducible rfl))
        try simp only [Act.put, List.getElem_toArray, List.getElem_cons_succ, List.getElem_cons_zero, List.setIfInBounds_toArray, List.set_cons_zero, List.set_cons_succ]
        refine anyB_takeT (i := 4) (v := ?v309_4) rfl (by kernel_rfl) (by kernel_rfl) (by kernel_rfl) (by kernel_rfl) (fun _ _ _ h => h) (Or.inl ⟨by kernel_rfl, ?y309_4⟩) hHeld.1 (fun _ => hHeld.2) ?r309_4
        case y309_4 => ((intro w hTw; skip; clear hTw; go_simp); (try go_ints); (try with_reducible rfl))
        try simp only [Act.put, List.getElem_toArray, List.getElem_cons_succ, List.getElem_cons_zero, List.setIfInBounds_toArray, List.set_cons_zero, List.set_cons_succ]
        refine anyB_takeT (i := 5) (v := ?v310_5) rfl (by kernel_rfl) (by kernel_rfl) (by kernel_rfl) (by kernel_rfl) (fun _ _ _ h => h) (Or.inl ⟨by kernel_rfl, ?y310_5⟩) hHeld.1 (fun _ => hHeld.2) ?r310_5
        case y310_5 => ((intro w hTw; skip; clear hTw; go_simp); (try go_ints); (try with_reducible rfl))
        try simp only [Act.put, List.getElem_toArray, List.getElem_cons_succ, List.getElem_cons_zero, List.setIfInBounds_toArray, List.set_cons_zero, List.set_cons_succ]
        refine anyB_take (i := 6) (v := ?v311_6) rfl (by kernel_rfl) (by kernel_rfl) (by kernel_rfl) (by kernel_rfl) (fun _ _ _ h => h) (Or.inl ⟨by kernel_rfl, ?y311_6⟩) (by kernel_rfl) hHeld ?r311_6
        case y311_6 => ((rintro w ⟨hTw, hSw⟩; obtain ⟨⟨c0, c1, c2, c3⟩, ⟨a0, a1, a2, a3⟩, hl0, hl1, m0, m1, hlm, hsz⟩ := HF.out _ (HG6.out.trans hSw); obtain ⟨x0, x1, -, -⟩ := (HC12.out.grows hSw).two; have hl2 := (HC12.out.grows hSw).lt; clear hSw hTw; go_simp); (try go_ints); (try with_reducible rfl))
        try simp only [Act.put, List.getElem_toArray, List.getElem_cons_succ, List.getElem_cons_zero, List.setIfInBounds_toArray, List.set_cons_zero, List.set_cons_succ]
        refine anyB_takeT (i := 7) (v := ?v312_7) rfl (by kernel_rfl) (by kernel_rfl) (by kernel_rfl) (by kernel_rfl) (fun _ _ _ h => h) (Or.inl ⟨by kernel_rfl, ?y312_7⟩) hHeld.1 (fun _ => hHeld.2) ?r312_7
        case y312_7 => ((intro w hTw; skip; clear hTw; go_simp); (try go_ints); (try with_reducible rfl))
        try simp only [Act.put, List.getElem_toArray, List.getElem_cons_succ, List.getElem_cons_zero, List.setIfInBounds_toArray, List.set_cons_zero, List.set_cons_succ]
        refine anyB_take (i := 8) (v := ?v313_8) rfl (by kernel_rfl) (by kernel_rfl) (by kernel_rfl) (by kernel_rfl) (fun _ _ _ h => h) (Or.inl ⟨by kernel_rfl, ?y313_8⟩) (by kernel_rfl) hHeld ?r313_8
        case y313_8 => ((rintro w ⟨hTw, hSw⟩; obtain ⟨⟨c0, c1, c2, c3⟩, ⟨a0, a1, a2, a3⟩, hl0, hl1, m0, m1, hlm, hsz⟩ := HF.out _ (HG6.out.trans hSw); obtain ⟨x0, x1, -, -⟩ := (HC12.out.grows hSw).two; have hl2 := (HC12.out.grows hSw).lt; clear hSw hTw; go_simp); (try go_ints); (try with_reducible rfl))
        try simp only [Act.put, List.getElem_toArray, List.getElem_cons_succ, List.getElem_cons_zero, List.setIfInBounds_toArray, List.set_cons_zero, List.set_cons_succ]
        refine anyB_takeT (i := 9) (v := ?v314_9) rfl (by kernel_rfl) (by kernel_rfl) (by kernel_rfl) (by kernel_rfl) (fun _ _ _ h => h) (Or.inl ⟨by kernel_rfl, ?y314_9⟩) hHeld.1 (fun _ => hHeld.2) ?r314_9
        case y314_9 => ((intro w hTw; skip; clear hTw; go_simp); (try go_ints); (try with_reducible rfl))
        try simp only [Act.put, List.getElem_toArray, List.getElem_cons_succ, List.getElem_cons_zero, List.setIfInBounds_toArray, List.set_cons_zero, List.set_cons_succ]
        refine anyB_ready (i := 10) (by kernel_rfl) rfl (fun K hK => ?_)
        simp only [List.getElem_toArray, List.getElem_cons_succ, List.getElem_cons_zero]
        go_simp
        (go_at_call 44; (go_must (with_reducible refine (HSM.out _ ((HG0.out.trans HG1.out).trans (HG6.out.trans hgS))).mono ?_)); rintro e w7 ⟨rfl, hgc⟩)
        refine hK.out _ _ ⟨?_, ?_⟩ ?_
        · ((try dsimp only); exact Grows.same (hgS.trans (by repeat' (first | (with_reducible exact hgc) | (with_reducible exact Grows.refl _) | (with_reducible refine Grows.alloc ?_ _) | (with_reducible refine Grows.drew ?_) | (with_reducible refine Grows.ext ?_ _ _)))) _)
        · ((try dsimp only); exact hgS.trans (by repeat' (first | (with_reducible exact hgc) | (with_reducible exact Grows.refl _) | (with_reducible refine Grows.alloc ?_ _) | (with_reducible refine Grows.drew ?_) | (with_reducible refine Grows.ext ?_ _ _))))
        clear hK K hHeld
        intro hHeld
        try simp only [Act.put, List.getElem_toArray, List.getElem_cons_succ, List.getElem_cons_zero, List.setIfInBounds_toArray, List.set_cons_zero, List.set_cons_succ]
        refine abs_anyB (fun W' => Grows X304 W' ∧ True) ⟨(by repeat' (first | (with_reducible exact hgc) | (with_reducible exact Grows.refl _) | (with_reducible refine Grows.alloc ?_ _) | (with_reducible refine Grows.drew ?_) | (with_reducible refine Grows.ext ?_ _ _))), trivial⟩ ?_
        clear hHeld
        rintro X315 ⟨hgn, hex⟩
        have hgS := hgS.trans hgn
        have hsS := hgS.size
        clear hgn hex
        have hHeld := And.intro (Grows.same (hgS) (fun b => b ≠ (p2 + 1))) hgS
        refine anyB_takeT (i := 11) (v := ?v316_11) rfl (by kernel_rfl) (by kernel_rfl) (by kernel_rfl) (by kernel_rfl) (fun _ _ _ h => h) (Or.inl ⟨by kernel_rfl, ?y316_11⟩) hHeld.1 (fun _ => hHeld.2) ?r316_11
        case y316_11 => ((intro w hTw; skip; clear hTw; go_simp); (try go_ints); (try with_reducible rfl))
        try simp only [Act.put, List.getElem_toArray, List.getElem_cons_succ, List.getElem_cons_zero, List.setIfInBounds_toArray, List.set_cons_zero, List.set_cons_succ]
        refine anyB_takeT (i := 12) (v := ?v317_12) rfl (by kernel_rfl) (by kernel_rfl) (by kernel_rfl) (by kernel_rfl) (fun _ _ _ h => h) (Or.inl ⟨by kernel_rfl, ?y317_12⟩) hHeld.1 (fun _ => hHeld.2) ?r317_12
        case y317_12 => ((intro w hTw; skip; clear hTw; go_simp); (try go_ints); (try with_reducible rfl))
        try simp only [Act.put, List.getElem_toArray, List.getElem_cons_succ, List.getElem_cons_zero, List.setIfInBounds_toArray, List.set_cons_zero, List.set_cons_succ]
        refine anyB_over (i := 13) (by kernel_rfl) rfl (by kernel_rfl) (fun K hK => ?_)
        simp only [List.getElem_toArray, List.getElem_cons_succ, List.getElem_cons_zero]
        obtain ⟨y0, y1, y2, y3⟩ := (HC13.out.grows hgS).four
        obtain ⟨z0, z1, z2, z3⟩ := (HC13.out.grows hgS).four'
        have hl3 := (HC13.out.grows hgS).lt
        go_simp
        skip
        refine hK.out _ _ ?_ ?_
        · ((try dsimp only); exact (by repeat' (first | (with_reducible exact Grows.same hgS _) | (with_reducible exact Grows.same (hgS.trans hgc) _) | (with_reducible refine Same.trans ?_ (same_set (fun h => Ne.irrefl h))))))
        clear hK K hHeld
        intro hHeld
        try simp only [Act.put, List.getElem_toArray, List.getElem_cons_succ, List.getElem_cons_zero, List.setIfInBounds_toArray, List.set_cons_zero, List.set_cons_succ]
        refine anyB_done (by kernel_rfl) ?_ _
        try clear hHeld
        refine abs_exit (fun W => Grows W1 W ∧ Row3 B W u6 u7 u8 (pT m).length (pU m).length (pI m).length (tilC (pT m)) (rulC (pU m)) (rulC (pI m)) ∧ Blk W (p2 + 1) 27 #[.int .i64 row, .int .i64 (col + oo), .int .i64 rows, .int .i64 (xw + sh)]) ⟨(HG6.out.trans hgS).setCell (by omega) _, (HR6.out.grows hgS).set HAP.out, (HC13.out.grows hgS).set 3 _⟩ ?_
        rintro W7 ⟨hg7, hr7, hd13⟩
        have HG7 := Lib.hid hg7
        have HR7 := Lib.hid hr7
        have HD13 := Lib.hid hd13
        obtain ⟨y0, y1, y2, y3⟩ := hd13.four
        have hl3 := hd13.lt
        clear hg7 hr7 hd13
        go_upto_region 25 with fail
        have hgS := Grows.refl W7
        refine wp_region_B [] (fun w' => Same (fun b => b ≠ (p2 + 1)) W7 w') (fun w' => Grows W7 w') (by kernel_rfl) ⟨(Grows.same (by exact hgS.trans (by repeat' (first | (with_reducible exact hgc) | (with_reducible exact Grows.refl _) | (with_reducible refine Grows.alloc ?_ _) | (with_reducible refine Grows.drew ?_) | (with_reducible refine Grows.ext ?_ _ _)))) _), (by exact hgS.trans (by repeat' (first | (with_reducible exact hgc) | (with_reducible exact Grows.refl _) | (with_reducible refine Grows.alloc ?_ _) | (with_reducible refine Grows.drew ?_) | (with_reducible refine Grows.ext ?_ _ _))))⟩ (fun hHeld => ?_)
        refine abs_anyB (fun W' => Grows W7 W' ∧ True) ⟨(by repeat' (first | (with_reducible exact hgc) | (with_reducible exact Grows.refl _) | (with_reducible refine Grows.alloc ?_ _) | (with_reducible refine Grows.drew ?_) | (with_reducible refine Grows.ext ?_ _ _))), trivial⟩ ?_
        clear hHeld
        rintro X318 ⟨hgn, hex⟩
        have hgS := hgS.trans hgn
        have hsS := hgS.size
        clear hgn hex
        have hHeld := And.intro (Grows.same (hgS) (fun b => b ≠ (p2 + 1))) hgS
        refine anyB_takeT (i := 0) (v := ?v319_0) rfl (by kernel_rfl) (by kernel_rfl) (by kernel_rfl) (by kernel_rfl) (fun _ _ _ h => h) (Or.inl ⟨by kernel_rfl, ?y319_0⟩) hHeld.1 (fun _ => hHeld.2) ?r319_0
        case y319_0 => ((intro w hTw; skip; clear hTw; go_simp); (try go_ints); (try with_reducible rfl))
        try simp only [Act.put, List.getElem_toArray, List.getElem_cons_zero, List.setIfInBounds_toArray, List.set_cons_zero, List.set_cons_succ]
        refine anyB_take (i := 1) (v := ?v320_1) rfl (by kernel_rfl) (by kernel_rfl) (by kernel_rfl) (by kernel_rfl) (fun _ _ _ h => h) (Or.inl ⟨by kernel_rfl, ?y320_1⟩) (by kernel_rfl) hHeld ?r320_1
        case y320_1 => ((rintro w ⟨hTw, hSw⟩; obtain ⟨⟨c0, c1, c2, c3⟩, ⟨a0, a1, a2, a3⟩, hl0, hl1, m0, m1, hlm, hsz⟩ := HF.out _ (HG7.out.trans hSw); obtain ⟨e0, e1, e4, e3, hb⟩ := HE.out _ (HG7.out.trans hSw); obtain ⟨y0, y1, y2, y3⟩ := (HD13.out.grows hSw).four; have hl3 := (HD13.out.grows hSw).lt; clear hSw hTw; go_simp); (try go_ints); (try with_reducible rfl))
        try simp only [Act.put, List.getElem_toArray, List.getElem_cons_succ, List.getElem_cons_zero, List.setIfInBounds_toArray, List.set_cons_zero, List.set_cons_succ]
        refine anyB_takeT (i := 2) (v := ?v321_2) rfl (by kernel_rfl) (by kernel_rfl) (by kernel_rfl) (by kernel_rfl) (fun _ _ _ h => h) (Or.inl ⟨by kernel_rfl, ?y321_2⟩) hHeld.1 (fun _ => hHeld.2) ?r321_2
        case y321_2 => ((intro w hTw; skip; clear hTw; go_simp); (try go_ints); (try with_reducible rfl))
        try simp only [Act.put, List.getElem_toArray, List.getElem_cons_succ, List.getElem_cons_zero, List.setIfInBounds_toArray, List.set_cons_zero, List.set_cons_succ]
        refine anyB_takeT (i := 3) (v := ?v322_3) rfl (by kernel_rfl) (by kernel_rfl) (by kernel_rfl) (by kernel_rfl) (fun _ _ _ h => h) (Or.inl ⟨by kernel_rfl, ?y322_3⟩) hHeld.1 (fun _ => hHeld.2) ?r322_3
        case y322_3 => ((intro w hTw; skip; clear hTw; go_simp); (try go_ints); (try with_reducible rfl))
        try simp only [Act.put, List.getElem_toArray, List.getElem_cons_succ, List.getElem_cons_zero, List.setIfInBounds_toArray, List.set_cons_zero, List.set_cons_succ]
        refine anyB_take (i := 4) (v := ?v323_4) rfl (by kernel_rfl) (by kernel_rfl) (by kernel_rfl) (by kernel_rfl) (fun _ _ _ h => h) (Or.inl ⟨by kernel_rfl, ?y323_4⟩) (by kernel_rfl) hHeld ?r323_4
        case y323_4 => ((rintro w ⟨hTw, hSw⟩; obtain ⟨⟨c0, c1, c2, c3⟩, ⟨a0, a1, a2, a3⟩, hl0, hl1, m0, m1, hlm, hsz⟩ := HF.out _ (HG7.out.trans hSw); obtain ⟨e0, e1, e4, e3, hb⟩ := HE.out _ (HG7.out.trans hSw); obtain ⟨y0, y1, y2, y3⟩ := (HD13.out.grows hSw).four; have hl3 := (HD13.out.grows hSw).lt; clear hSw hTw; go_simp); (try go_ints); (try with_reducible rfl))
        try simp only [Act.put, List.getElem_toArray, List.getElem_cons_succ, List.getElem_cons_zero, List.setIfInBounds_toArray, List.set_cons_zero, List.set_cons_succ]
        refine anyB_take (i := 5) (v := ?v324_5) rfl (by kernel_rfl) (by kernel_rfl) (by kernel_rfl) (by kernel_rfl) (fun _ _ _ h => h) (Or.inl ⟨by kernel_rfl, ?y324_5⟩) (by kernel_rfl) hHeld ?r324_5
        case y324_5 => ((rintro w ⟨hTw, hSw⟩; obtain ⟨⟨c0, c1, c2, c3⟩, ⟨a0, a1, a2, a3⟩, hl0, hl1, m0, m1, hlm, hsz⟩ := HF.out _ (HG7.out.trans hSw); obtain ⟨e0, e1, e4, e3, hb⟩ := HE.out _ (HG7.out.trans hSw); obtain ⟨y0, y1, y2, y3⟩ := (HD13.out.grows hSw).four; have hl3 := (HD13.out.grows hSw).lt; clear hSw hTw; go_simp); (try go_ints); (try with_reducible rfl))
        try simp only [Act.put, List.getElem_toArray, List.getElem_cons_succ, List.getElem_cons_zero, List.setIfInBounds_toArray, List.set_cons_zero, List.set_cons_succ]
        refine anyB_ready (i := 6) (by kernel_rfl) rfl (fun K hK => ?_)
        simp only [List.getElem_toArray, List.getElem_cons_succ, List.getElem_cons_zero]
        go_simp
        (go_at_call 13; (go_must (with_reducible refine (HC.out _ (HG7.out.trans hgS)).mono ?_)); rintro e w8 ⟨v1, v2, rfl, hv1, hv2, hnew, hgc⟩)
        refine hK.out _ _ ⟨?_, ?_⟩ ?_
        · ((try dsimp only); exact Grows.same (hgS.trans (by repeat' (first | (with_reducible exact hgc) | (with_reducible exact Grows.refl _) | (with_reducible refine Grows.alloc ?_ _) | (with_reducible refine Grows.drew ?_) | (with_reducible refine Grows.ext ?_ _ _)))) _)
        · ((try dsimp only); exact hgS.trans (by repeat' (first | (with_reducible exact hgc) | (with_reducible exact Grows.refl _) | (with_reducible refine Grows.alloc ?_ _) | (with_reducible refine Grows.drew ?_) | (with_reducible refine Grows.ext ?_ _ _))))
        clear hK K hHeld
        intro hHeld
        try simp only [Act.put, List.getElem_toArray, List.getElem_cons_succ, List.getElem_cons_zero, List.setIfInBounds_toArray, List.set_cons_zero, List.set_cons_succ]
        refine abs_anyB (fun W' => Grows X318 W' ∧ (CellsAt 5 W' v1 q.1.length (tilC q.1) ∧ CellsAt 5 W' v2 q.2.length (rulC q.2))) ⟨(by repeat' (first | (with_reducible exact hgc) | (with_reducible exact Grows.refl _) | (with_reducible refine Grows.alloc ?_ _) | (with_reducible refine Grows.drew ?_) | (with_reducible refine Grows.ext ?_ _ _))), ⟨hv1, hv2⟩⟩ ?_
        clear hHeld
        rintro X325 ⟨hgn, hex⟩
        have HV := Lib.hid hex
        have hgS := hgS.trans hgn
        have hsS := hgS.size
        clear hgn hex
        have hHeld := And.intro (Grows.same (hgS) (fun b => b ≠ (p2 + 1))) hgS
        refine anyB_takeT (i := 7) (v := ?v326_7) rfl (by kernel_rfl) (by kernel_rfl) (by kernel_rfl) (by kernel_rfl) (fun _ _ _ h => h) (Or.inl ⟨by kernel_rfl, ?y326_7⟩) hHeld.1 (fun _ => hHeld.2) ?r326_7
        case y326_7 => ((intro w hTw; skip; clear hTw; go_simp); (try go_ints); (try with_reducible rfl))
        try simp only [Act.put, List.getElem_toArray, List.getElem_cons_succ, List.getElem_cons_zero, List.setIfInBounds_toArray, List.set_cons_zero, List.set_cons_succ]
        refine anyB_takeT (i := 8) (v := ?v327_8) rfl (by kernel_rfl) (by kernel_rfl) (by kernel_rfl) (by kernel_rfl) (fun _ _ _ h => h) (Or.inl ⟨by kernel_rfl, ?y327_8⟩) hHeld.1 (fun _ => hHeld.2) ?r327_8
        case y327_8 => ((intro w hTw; skip; clear hTw; go_simp); (try go_ints); (try with_reducible rfl))
        try simp only [Act.put, List.getElem_toArray, List.getElem_cons_succ, List.getElem_cons_zero, List.setIfInBounds_toArray, List.set_cons_zero, List.set_cons_succ]
        refine anyB_takeT (i := 9) (v := ?v328_9) rfl (by kernel_rfl) (by kernel_rfl) (by kernel_rfl) (by kernel_rfl) (fun _ _ _ h => h) (Or.inl ⟨by kernel_rfl, ?y328_9⟩) hHeld.1 (fun _ => hHeld.2) ?r328_9
        case y328_9 => ((intro w hTw; skip; clear hTw; go_simp); (try go_ints); (try with_reducible rfl))
        try simp only [Act.put, List.getElem_toArray, List.getElem_cons_succ, List.getElem_cons_zero, List.setIfInBounds_toArray, List.set_cons_zero, List.set_cons_succ]
        refine anyB_takeT (i := 10) (v := ?v329_10) rfl (by kernel_rfl) (by kernel_rfl) (by kernel_rfl) (by kernel_rfl) (fun _ _ _ h => h) (Or.inl ⟨by kernel_rfl, ?y329_10⟩) hHeld.1 (fun _ => hHeld.2) ?r329_10
        case y329_10 => ((intro w hTw; skip; clear hTw; go_simp); (try go_ints); (try with_reducible rfl))
        try simp only [Act.put, List.getElem_toArray, List.getElem_cons_succ, List.getElem_cons_zero, List.setIfInBounds_toArray, List.set_cons_zero, List.set_cons_succ]
        refine anyB_takeT (i := 11) (v := ?v330_11) rfl (by kernel_rfl) (by kernel_rfl) (by kernel_rfl) (by kernel_rfl) (fun _ _ _ h => h) (Or.inl ⟨by kernel_rfl, ?y330_11⟩) hHeld.1 (fun _ => hHeld.2) ?r330_11
        case y330_11 => ((intro w hTw; skip; clear hTw; go_simp); (try go_ints); (try with_reducible rfl))
        try simp only [Act.put, List.getElem_toArray, List.getElem_cons_succ, List.getElem_cons_zero, List.setIfInBounds_toArray, List.set_cons_zero, List.set_cons_succ]
        refine anyB_done (by kernel_rfl) ?_ _
        try clear hHeld
        have hrx := HR7.out.grows hgS
        have hap : ∀ b, u6.ownBlock = some b → v2.ownBlock ≠ some b := fun b e e2 => by have g1 := (HR7.out.t.lt b e).2; have g2 := hnew b e2; omega
        have hgq := HG7.out.trans hgS
        go_wp2_with (first | (at_builtin; refine wpList_appO _ rfl (.tmp 131) (.tmp 132) 29 rfl B 41 i29 _ 5 40 Try.underlying29 hi29 hz29 hs29 hb29 rfl (by decide) _ _ (tilC (pT m)) (tilC q.1) hrx.t HV.out.1 (tilC_one _) (by unfold maxLen; omega) (by omega) (by have := hgq.size; omega) ?_; intro v8 w8 row8 q1 q2 q3 q4; have hr8 := hrx.addT q1 q2 q3 q4; have hg8 : Grows W1 w8 := appended_grows hgq q2 (fun k e => by rw [hBe]; exact (q3 k e).1); have hv8 := HV.out.2.kept q2 (fun k e => hap k (q3 k e).2.2)) | (at_builtin; refine wpList_appO _ rfl (.tmp 134) (.tmp 135) 30 rfl B 44 i30 _ 5 40 Try.underlying30 hi30 hz30 hs30 hb30 rfl (by decide) _ _ (rulC (pI m)) (rulC q.2) hr8.i hv8 (rulC_one _) (by unfold maxLen; omega) (by omega) (by have := hg8.size; omega) ?_; intro v9 w9 row9 q1 q2 q3 q4; have hr9 := hr8.addI q1 q2 q3 q4; have hg9 : Grows W1 w9 := appended_grows hg8 q2 (fun k e => by rw [hBe]; exact (q3 k e).1)))
        go_roundw
        case rel => exact ⟨m + 1, _, rfl, by omega, by go_num, by rw [HNX.out], by rw [HS.out.1, HS.out.2, HU.out, List.length_append, List.length_append, ← tilC_append, ← rulC_append]; exact hr9, hg9⟩
        case measure => simp [intOf]; omega
      · obtain rfl : oo = o + 1 := by omega
        have HU := Lib.hid (show pU (m + 1) = pU m ++ [⟨⟨row, col + o, rows, 1⟩, true⟩] by rw [hus (by omega), show o + 1 - 1 = o by omega]; rfl)
        clear hof hsm hus
        obtain ⟨⟨c0, c1, c2, c3⟩, ⟨a0, a1, a2, a3⟩, hl0, hl1, m0, m1, hlm, hsz⟩ := HF.out _ hgx
        obtain ⟨x0, x1, -, -⟩ := HB12.out.two
        obtain ⟨y0, y1, y2, y3⟩ := HB13.out.four
        obtain ⟨z0, z1, z2, z3⟩ := HB13.out.four'
        have hl2 := HB12.out.lt
        have hl3 := HB13.out.lt
        go_upto_region 15 with (at_builtin; (go_must (refine wpList_appO _ rfl (.tmp 45) (.tmp 56) 30 rfl B 44 i30 _ 5 40 Try.underlying30 hi30 hz30 hs30 hb30 rfl (by decide) _ 1 (rulC (pU m)) (rulC [⟨⟨row, col + o, rows, 1⟩, true⟩]) (HR3.out.grows (by repeat' (first | (with_reducible exact Grows.refl _) | (with_reducible refine Grows.alloc ?_ _) | (with_reducible refine Grows.drew ?_) | (with_reducible refine Grows.ext ?_ _ _)))).u (by rw [rulC_single]; exact cells_new5 (by simp) rfl rfl) (rulC_one _) (by unfold maxLen; omega) (by omega) (by simp; omega) ?_)); (go_must (intro v6 w6 row6 q1 q2 q3 q4; have hru := Row3.addU (HR3.out.grows (by repeat' (first | (with_reducible exact Grows.refl _) | (with_reducible refine Grows.alloc ?_ _) | (with_reducible refine Grows.drew ?_) | (with_reducible refine Grows.ext ?_ _ _)))) q1 q2 q3 q4; have hgq : Grows W1 w6 := appended_grows (hgx.trans (by repeat' (first | (with_reducible exact Grows.refl _) | (with_reducible refine Grows.alloc ?_ _) | (with_reducible refine Grows.drew ?_) | (with_reducible refine Grows.ext ?_ _ _)))) q2 (fun k e => by rw [hBe]; exact (q3 k e).1); have hne : ∀ n, wv.heap.size ≤ n → row6 ≠ some n := (fun n hn e => by have := HLT.out.2.1 _ (q3 _ e).2.2; omega); have hb12 := (HB12.out.grows (by repeat' (first | (with_reducible exact Grows.refl _) | (with_reducible refine Grows.alloc ?_ _) | (with_reducible refine Grows.drew ?_) | (with_reducible refine Grows.ext ?_ _ _)))).kept q2 (hne _ hp2g); have hb13 := (HB13.out.grows (by repeat' (first | (with_reducible exact Grows.refl _) | (with_reducible refine Grows.alloc ?_ _) | (with_reducible refine Grows.drew ?_) | (with_reducible refine Grows.ext ?_ _ _)))).kept q2 (hne _ (by omega)); have HAP := Lib.hid (show u6.ownBlock ≠ some (p2 + 1) ∧ v6.ownBlock ≠ some (p2 + 1) ∧ u8.ownBlock ≠ some (p2 + 1) from ⟨fun e => by have := HLT.out.1 _ e; omega, fun e => by rcases q4 with q | ⟨k, g1, g2, g3⟩; exact (by have := HLT.out.2.1 _ (q.symm.trans e); omega); exact (by rw [g3] at e; injection e with e; have := HB13.out.lt; simp at g1; omega), fun e => by have := HLT.out.2.2 _ e; omega⟩))))
        refine abs_worldM (fun W => Grows W1 W ∧ Row3 B W u6 v6 u8 _ _ _ (tilC (pT m)) (rulC (pU m) ++ rulC [⟨⟨row, col + o, rows, 1⟩, true⟩]) (rulC (pI m)) ∧ Blk W p2 84 #[.int .i64 xw, .int .i64 xh] ∧ Blk W (p2 + 1) 27 #[.int .i64 row, .int .i64 col, .int .i64 rows, .int .i64 cols]) ⟨hgq, hru, hb12, hb13⟩ ?_
        clear hgq hru hb12 hb13 q1 q2 q3 q4 hgx HR3 HB12 HB13 hne HRO HLT c0 c1 c2 c3 a0 a1 a2 a3 hl0 hl1 m0 m1 hlm x0 x1 y0 y1 y2 y3 z0 z1 z2 z3 hl2 hl3 hsz
        rintro W5 ⟨hgx, hr3, hb12, hb13⟩
        have HR3 := Lib.hid hr3
        have HB12 := Lib.hid hb12
        have HB13 := Lib.hid hb13
        clear hr3 hb12 hb13
        obtain ⟨⟨c0, c1, c2, c3⟩, ⟨a0, a1, a2, a3⟩, hl0, hl1, m0, m1, hlm, hsz⟩ := HF.out _ hgx
        obtain ⟨x0, x1, -, -⟩ := HB12.out.two
        obtain ⟨y0, y1, y2, y3⟩ := HB13.out.four
        obtain ⟨z0, z1, z2, z3⟩ := HB13.out.four'
        have hl2 := HB12.out.lt
        have hl3 := HB13.out.lt
        go_upto_region 16 with fail
        go_upto_region 17 with fail
        refine abs_worldM (fun W => Grows W1 W ∧ Row3 B W u6 v6 u8 (pT m).length ((pU m).length + 1) (pI m).length (tilC (pT m)) (rulC (pU m) ++ rulC [⟨⟨row, col + o, rows, 1⟩, true⟩]) (rulC (pI m)) ∧ Blk W p2 84 #[.int .i64 xw, .int .i64 xh] ∧ Blk W (p2 + 1) 27 #[.int .i64 row, .int .i64 (col + (o + 1)), .int .i64 rows, .int .i64 cols]) ⟨hgx.setCell (by omega) _, HR3.out.set HAP.out, HB12.out.other (by omega), HB13.out.set 1 _⟩ ?_
        clear hgx c0 c1 c2 c3 a0 a1 a2 a3 hl0 hl1 m0 m1 hlm x0 x1 y0 y1 y2 y3 z0 z1 z2 z3 hl2 hl3 hsz
        rintro W6 ⟨hg6, hr6, hc12, hc13⟩
        have HG6 := Lib.hid hg6
        have HR6 := Lib.hid hr6
        have HC12 := Lib.hid hc12
        have HC13 := Lib.hid hc13
        have hs6 := hg6.size
        clear hg6 hr6 hc12 hc13 HR3 HB12 HB13
        have hgS := Grows.refl W6
        refine wp_region_B [13] (fun w' => Same (fun b => b ≠ (p2 + 1)) W6 w') (fun w' => Grows W6 w') (by kernel_rfl) ⟨(Grows.same (by exact hgS.trans (by repeat' (first | (with_reducible exact hgc) | (with_reducible exact Grows.refl _) | (with_reducible refine Grows.alloc ?_ _) | (with_reducible refine Grows.drew ?_) | (with_reducible refine Grows.ext ?_ _ _)))) _), (by exact hgS.trans (by repeat' (first | (with_reducible exact hgc) | (with_reducible exact Grows.refl _) | (with_reducible refine Grows.alloc ?_ _) | (with_reducible refine Grows.drew ?_) | (with_reducible refine Grows.ext ?_ _ _))))⟩ (fun hHeld => ?_)
        refine abs_anyB (fun W' => Grows W6 W' ∧ True) ⟨(by repeat' (first | (with_reducible exact hgc) | (with_reducible exact Grows.refl _) | (with_reducible refine Grows.alloc ?_ _) | (with_reducible refine Grows.drew ?_) | (with_reducible refine Grows.ext ?_ _ _))), trivial⟩ ?_
        clear hHeld
        rintro X331 ⟨hgn, hex⟩
        have hgS := hgS.trans hgn
        have hsS := hgS.size
        clear hgn hex
        have hHeld := And.intro (Grows.same (hgS) (fun b => b ≠ (p2 + 1))) hgS
        refine anyB_takeT (i := 0) (v := ?v332_0) rfl (by kernel_rfl) (by kernel_rfl) (by kernel_rfl) (by kernel_rfl) (fun _ _ _ h => h) (Or.inl ⟨by kernel_rfl, ?y332_0⟩) hHeld.1 (fun _ => hHeld.2) ?r332_0
        case y332_0 => ((intro w hTw; skip; clear hTw; go_simp); (try go_ints); (try with_reducible rfl))
        try simp only [Act.put, List.getElem_toArray, List.getElem_cons_zero, List.setIfInBounds_toArray, List.set_cons_zero, List.set_cons_succ]
        refine anyB_take (i := 1) (v := ?v333_1) rfl (by kernel_rfl) (by kernel_rfl) (by kernel_rfl) (by kernel_rfl) (fun _ _ _ h => h) (Or.inl ⟨by kernel_rfl, ?y333_1⟩) (by kernel_rfl) hHeld ?r333_1
        case y333_1 => ((rintro w ⟨hTw, hSw⟩; obtain ⟨⟨c0, c1, c2, c3⟩, ⟨a0, a1, a2, a3⟩, hl0, hl1, m0, m1, hlm, hsz⟩ := HF.out _ (HG6.out.trans hSw); obtain ⟨x0, x1, -, -⟩ := (HC12.out.grows hSw).two; have hl2 := (HC12.out.grows hSw).lt; clear hSw hTw; go_simp); (try go_ints); (try with_reducible rfl))
        try simp only [Act.put, List.getElem_toArray, List.getElem_cons_succ, List.getElem_cons_zero, List.setIfInBounds_toArray, List.set_cons_zero, List.set_cons_succ]
        refine anyB_takeT (i := 2) (v := ?v334_2) rfl (by kernel_rfl) (by kernel_rfl) (by kernel_rfl) (by kernel_rfl) (fun _ _ _ h => h) (Or.inl ⟨by kernel_rfl, ?y334_2⟩) hHeld.1 (fun _ => hHeld.2) ?r334_2
        case y334_2 => ((intro w hTw; skip; clear hTw; go_simp); (try go_ints); (try with_reducible rfl))
        try simp only [Act.put, List.getElem_toArray, List.getElem_cons_succ, List.getElem_cons_zero, List.setIfInBounds_toArray, List.set_cons_zero, List.set_cons_succ]
        refine anyB_take (i := 3) (v := ?v335_3) rfl (by kernel_rfl) (by kernel_rfl) (by kernel_rfl) (by kernel_rfl) (fun _ _ _ h => h) (Or.inl ⟨by kernel_rfl, ?y335_3⟩) (by kernel_rfl) hHeld ?r335_3
        case y335_3 => ((rintro w ⟨hTw, hSw⟩; obtain ⟨⟨c0, c1, c2, c3⟩, ⟨a0, a1, a2, a3⟩, hl0, hl1, m0, m1, hlm, hsz⟩ := HF.out _ (HG6.out.trans hSw); obtain ⟨x0, x1, -, -⟩ := (HC12.out.grows hSw).two; have hl2 := (HC12.out.grows hSw).lt; clear hSw hTw; go_simp); (try go_ints); (try with_reducible rfl))
        try simp only [Act.put, List.getElem_toArray, List.getElem_cons_succ, List.getElem_cons_zero, List.setIfInBounds_toArray, List.set_cons_zero, List.set_cons_succ]
        refine anyB_takeT (i := 4) (v := ?v336_4) rfl (by kernel_rfl) (by kernel_rfl) (by kernel_rfl) (by kernel_rfl) (fun _ _ _ h => h) (Or.inl ⟨by kernel_rfl, ?y336_4⟩) hHeld.1 (fun _ => hHeld.2) ?r336_4
        case y336_4 => ((intro w hTw; skip; clear hTw; go_simp); (try go_ints); (try with_reducible rfl))
        try simp only [Act.put, List.getElem_toArray, List.getElem_cons_succ, List.getElem_cons_zero, List.setIfInBounds_toArray, List.set_cons_zero, List.set_cons_succ]
        refine anyB_takeT (i := 5) (v := ?v337_5) rfl (by kernel_rfl) (by kernel_rfl) (by kernel_rfl) (by kernel_rfl) (fun _ _ _ h => h) (Or.inl ⟨by kernel_rfl, ?y337_5⟩) hHeld.1 (fun _ => hHeld.2) ?r337_5
        case y337_5 => ((intro w hTw; skip; clear hTw; go_simp); (try go_ints); (try with_reducible rfl))
        try simp only [Act.put, List.getElem_toArray, List.getElem_cons_succ, List.getElem_cons_zero, List.setIfInBounds_toArray, List.set_cons_zero, List.set_cons_succ]
        refine anyB_take (i := 6) (v := ?v338_6) rfl (by kernel_rfl) (by kernel_rfl) (by kernel_rfl) (by kernel_rfl) (fun _ _ _ h => h) (Or.inl ⟨by kernel_rfl, ?y338_6⟩) (by kernel_rfl) hHeld ?r338_6
        case y338_6 => ((rintro w ⟨hTw, hSw⟩; obtain ⟨⟨c0, c1, c2, c3⟩, ⟨a0, a1, a2, a3⟩, hl0, hl1, m0, m1, hlm, hsz⟩ := HF.out _ (HG6.out.trans hSw); obtain ⟨x0, x1, -, -⟩ := (HC12.out.grows hSw).two; have hl2 := (HC12.out.grows hSw).lt; clear hSw hTw; go_simp); (try go_ints); (try with_reducible rfl))
        try simp only [Act.put, List.getElem_toArray, List.getElem_cons_succ, List.getElem_cons_zero, List.setIfInBounds_toArray, List.set_cons_zero, List.set_cons_succ]
        refine anyB_takeT (i := 7) (v := ?v339_7) rfl (by kernel_rfl) (by kernel_rfl) (by kernel_rfl) (by kernel_rfl) (fun _ _ _ h => h) (Or.inl ⟨by kernel_rfl, ?y339_7⟩) hHeld.1 (fun _ => hHeld.2) ?r339_7
        case y339_7 => ((intro w hTw; skip; clear hTw; go_simp); (try go_ints); (try with_reducible rfl))
        try simp only [Act.put, List.getElem_toArray, List.getElem_cons_succ, List.getElem_cons_zero, List.setIfInBounds_toArray, List.set_cons_zero, List.set_cons_succ]
        refine anyB_take (i := 8) (v := ?v340_8) rfl (by kernel_rfl) (by kernel_rfl) (by kernel_rfl) (by kernel_rfl) (fun _ _ _ h => h) (Or.inl ⟨by kernel_rfl, ?y340_8⟩) (by kernel_rfl) hHeld ?r340_8
        case y340_8 => ((rintro w ⟨hTw, hSw⟩; obtain ⟨⟨c0, c1, c2, c3⟩, ⟨a0, a1, a2, a3⟩, hl0, hl1, m0, m1, hlm, hsz⟩ := HF.out _ (HG6.out.trans hSw); obtain ⟨x0, x1, -, -⟩ := (HC12.out.grows hSw).two; have hl2 := (HC12.out.grows hSw).lt; clear hSw hTw; go_simp); (try go_ints); (try with_reducible rfl))
        try simp only [Act.put, List.getElem_toArray, List.getElem_cons_succ, List.getElem_cons_zero, List.setIfInBounds_toArray, List.set_cons_zero, List.set_cons_succ]
        refine anyB_takeT (i := 9) (v := ?v341_9) rfl (by kernel_rfl) (by kernel_rfl) (by kernel_rfl) (by kernel_rfl) (fun _ _ _ h => h) (Or.inl ⟨by kernel_rfl, ?y341_9⟩) hHeld.1 (fun _ => hHeld.2) ?r341_9
        case y341_9 => ((intro w hTw; skip; clear hTw; go_simp); (try go_ints); (try with_reducible rfl))
        try simp only [Act.put, List.getElem_toArray, List.getElem_cons_succ, List.getElem_cons_zero, List.setIfInBounds_toArray, List.set_cons_zero, List.set_cons_succ]
        refine anyB_ready (i := 10) (by kernel_rfl) rfl (fun K hK => ?_)
        simp only [List.getElem_toArray, List.getElem_cons_succ, List.getElem_cons_zero]
        go_simp
        (go_at_call 44; (go_must (with_reducible refine (HSM.out _ ((HG0.out.trans HG1.out).trans (HG6.out.trans hgS))).mono ?_)); rintro e w7 ⟨rfl, hgc⟩)
        refine hK.out _ _ ⟨?_, ?_⟩ ?_
        · ((try dsimp only); exact Grows.same (hgS.trans (by repeat' (first | (with_reducible exact hgc) | (with_reducible exact Grows.refl _) | (with_reducible refine Grows.alloc ?_ _) | (with_reducible refine Grows.drew ?_) | (with_reducible refine Grows.ext ?_ _ _)))) _)
        · ((try dsimp only); exact hgS.trans (by repeat' (first | (with_reducible exact hgc) | (with_reducible exact Grows.refl _) | (with_reducible refine Grows.alloc ?_ _) | (with_reducible refine Grows.drew ?_) | (with_reducible refine Grows.ext ?_ _ _))))
        clear hK K hHeld
        intro hHeld
        try simp only [Act.put, List.getElem_toArray, List.getElem_cons_succ, List.getElem_cons_zero, List.setIfInBounds_toArray, List.set_cons_zero, List.set_cons_succ]
        refine abs_anyB (fun W' => Grows X331 W' ∧ True) ⟨(by repeat' (first | (with_reducible exact hgc) | (with_reducible exact Grows.refl _) | (with_reducible refine Grows.alloc ?_ _) | (with_reducible refine Grows.drew ?_) | (with_reducible refine Grows.ext ?_ _ _))), trivial⟩ ?_
        clear hHeld
        rintro X342 ⟨hgn, hex⟩
        have hgS := hgS.trans hgn
        have hsS := hgS.size
        clear hgn hex
        have hHeld := And.intro (Grows.same (hgS) (fun b => b ≠ (p2 + 1))) hgS
        refine anyB_takeT (i := 11) (v := ?v343_11) rfl (by kernel_rfl) (by kernel_rfl) (by kernel_rfl) (by kernel_rfl) (fun _ _ _ h => h) (Or.inl ⟨by kernel_rfl, ?y343_11⟩) hHeld.1 (fun _ => hHeld.2) ?r343_11
        case y343_11 => ((intro w hTw; skip; clear hTw; go_simp); (try go_ints); (try with_reducible rfl))
        try simp only [Act.put, List.getElem_toArray, List.getElem_cons_succ, List.getElem_cons_zero, List.setIfInBounds_toArray, List.set_cons_zero, List.set_cons_succ]
        refine anyB_takeT (i := 12) (v := ?v344_12) rfl (by kernel_rfl) (by kernel_rfl) (by kernel_rfl) (by kernel_rfl) (fun _ _ _ h => h) (Or.inl ⟨by kernel_rfl, ?y344_12⟩) hHeld.1 (fun _ => hHeld.2) ?r344_12
        case y344_12 => ((intro w hTw; skip; clear hTw; go_simp); (try go_ints); (try with_reducible rfl))
        try simp only [Act.put, List.getElem_toArray, List.getElem_cons_succ, List.getElem_cons_zero, List.setIfInBounds_toArray, List.set_cons_zero, List.set_cons_succ]
        refine anyB_over (i := 13) (by kernel_rfl) rfl (by kernel_rfl) (fun K hK => ?_)
        simp only [List.getElem_toArray, List.getElem_cons_succ, List.getElem_cons_zero]
        obtain ⟨y0, y1, y2, y3⟩ := (HC13.out.grows hgS).four
        obtain ⟨z0, z1, z2, z3⟩ := (HC13.out.grows hgS).four'
        have hl3 := (HC13.out.grows hgS).lt
        go_simp
        skip
        refine hK.out _ _ ?_ ?_
        · ((try dsimp only); exact (by repeat' (first | (with_reducible exact Grows.same hgS _) | (with_reducible exact Grows.same (hgS.trans hgc) _) | (with_reducible refine Same.trans ?_ (same_set (fun h => Ne.irrefl h))))))
        clear hK K hHeld
        intro hHeld
        try simp only [Act.put, List.getElem_toArray, List.getElem_cons_succ, List.getElem_cons_zero, List.setIfInBounds_toArray, List.set_cons_zero, List.set_cons_succ]
        refine anyB_done (by kernel_rfl) ?_ _
        try clear hHeld
        refine abs_exit (fun W => Grows W1 W ∧ Row3 B W u6 v6 u8 (pT m).length ((pU m).length + 1) (pI m).length (tilC (pT m)) (rulC (pU m) ++ rulC [⟨⟨row, col + o, rows, 1⟩, true⟩]) (rulC (pI m)) ∧ Blk W (p2 + 1) 27 #[.int .i64 row, .int .i64 (col + (o + 1)), .int .i64 rows, .int .i64 (xw + sh)]) ⟨(HG6.out.trans hgS).setCell (by omega) _, (HR6.out.grows hgS).set HAP.out, (HC13.out.grows hgS).set 3 _⟩ ?_
        rintro W7 ⟨hg7, hr7, hd13⟩
        have HG7 := Lib.hid hg7
        have HR7 := Lib.hid hr7
        have HD13 := Lib.hid hd13
        obtain ⟨y0, y1, y2, y3⟩ := hd13.four
        have hl3 := hd13.lt
        clear hg7 hr7 hd13
        go_upto_region 25 with fail
        have hgS := Grows.refl W7
        refine wp_region_B [] (fun w' => Same (fun b => b ≠ (p2 + 1)) W7 w') (fun w' => Grows W7 w') (by kernel_rfl) ⟨(Grows.same (by exact hgS.trans (by repeat' (first | (with_reducible exact hgc) | (with_reducible exact Grows.refl _) | (with_reducible refine Grows.alloc ?_ _) | (with_reducible refine Grows.drew ?_) | (with_reducible refine Grows.ext ?_ _ _)))) _), (by exact hgS.trans (by repeat' (first | (with_reducible exact hgc) | (with_reducible exact Grows.refl _) | (with_reducible refine Grows.alloc ?_ _) | (with_reducible refine Grows.drew ?_) | (with_reducible refine Grows.ext ?_ _ _))))⟩ (fun hHeld => ?_)
        refine abs_anyB (fun W' => Grows W7 W' ∧ True) ⟨(by repeat' (first | (with_reducible exact hgc) | (with_reducible exact Grows.refl _) | (with_reducible refine Grows.alloc ?_ _) | (with_reducible refine Grows.drew ?_) | (with_reducible refine Grows.ext ?_ _ _))), trivial⟩ ?_
        clear hHeld
        rintro X345 ⟨hgn, hex⟩
        have hgS := hgS.trans hgn
        have hsS := hgS.size
        clear hgn hex
        have hHeld := And.intro (Grows.same (hgS) (fun b => b ≠ (p2 + 1))) hgS
        refine anyB_takeT (i := 0) (v := ?v346_0) rfl (by kernel_rfl) (by kernel_rfl) (by kernel_rfl) (by kernel_rfl) (fun _ _ _ h => h) (Or.inl ⟨by kernel_rfl, ?y346_0⟩) hHeld.1 (fun _ => hHeld.2) ?r346_0
        case y346_0 => ((intro w hTw; skip; clear hTw; go_simp); (try go_ints); (try with_reducible rfl))
        try simp only [Act.put, List.getElem_toArray, List.getElem_cons_zero, List.setIfInBounds_toArray, List.set_cons_zero, List.set_cons_succ]
        refine anyB_take (i := 1) (v := ?v347_1) rfl (by kernel_rfl) (by kernel_rfl) (by kernel_rfl) (by kernel_rfl) (fun _ _ _ h => h) (Or.inl ⟨by kernel_rfl, ?y347_1⟩) (by kernel_rfl) hHeld ?r347_1
        case y347_1 => ((rintro w ⟨hTw, hSw⟩; obtain ⟨⟨c0, c1, c2, c3⟩, ⟨a0, a1, a2, a3⟩, hl0, hl1, m0, m1, hlm, hsz⟩ := HF.out _ (HG7.out.trans hSw); obtain ⟨e0, e1, e4, e3, hb⟩ := HE.out _ (HG7.out.trans hSw); obtain ⟨y0, y1, y2, y3⟩ := (HD13.out.grows hSw).four; have hl3 := (HD13.out.grows hSw).lt; clear hSw hTw; go_simp); (try go_ints); (try with_reducible rfl))
        try simp only [Act.put, List.getElem_toArray, List.getElem_cons_succ, List.getElem_cons_zero, List.setIfInBounds_toArray, List.set_cons_zero, List.set_cons_succ]
        refine anyB_takeT (i := 2) (v := ?v348_2) rfl (by kernel_rfl) (by kernel_rfl) (by kernel_rfl) (by kernel_rfl) (fun _ _ _ h => h) (Or.inl ⟨by kernel_rfl, ?y348_2⟩) hHeld.1 (fun _ => hHeld.2) ?r348_2
        case y348_2 => ((intro w hTw; skip; clear hTw; go_simp); (try go_ints); (try with_reducible rfl))
        try simp only [Act.put, List.getElem_toArray, List.getElem_cons_succ, List.getElem_cons_zero, List.setIfInBounds_toArray, List.set_cons_zero, List.set_cons_succ]
        refine anyB_takeT (i := 3) (v := ?v349_3) rfl (by kernel_rfl) (by kernel_rfl) (by kernel_rfl) (by kernel_rfl) (fun _ _ _ h => h) (Or.inl ⟨by kernel_rfl, ?y349_3⟩) hHeld.1 (fun _ => hHeld.2) ?r349_3
        case y349_3 => ((intro w hTw; skip; clear hTw; go_simp); (try go_ints); (try with_reducible rfl))
        try simp only [Act.put, List.getElem_toArray, List.getElem_cons_succ, List.getElem_cons_zero, List.setIfInBounds_toArray, List.set_cons_zero, List.set_cons_succ]
        refine anyB_take (i := 4) (v := ?v350_4) rfl (by kernel_rfl) (by kernel_rfl) (by kernel_rfl) (by kernel_rfl) (fun _ _ _ h => h) (Or.inl ⟨by kernel_rfl, ?y350_4⟩) (by kernel_rfl) hHeld ?r350_4
        case y350_4 => ((rintro w ⟨hTw, hSw⟩; obtain ⟨⟨c0, c1, c2, c3⟩, ⟨a0, a1, a2, a3⟩, hl0, hl1, m0, m1, hlm, hsz⟩ := HF.out _ (HG7.out.trans hSw); obtain ⟨e0, e1, e4, e3, hb⟩ := HE.out _ (HG7.out.trans hSw); obtain ⟨y0, y1, y2, y3⟩ := (HD13.out.grows hSw).four; have hl3 := (HD13.out.grows hSw).lt; clear hSw hTw; go_simp); (try go_ints); (try with_reducible rfl))
        try simp only [Act.put, List.getElem_toArray, List.getElem_cons_succ, List.getElem_cons_zero, List.setIfInBounds_toArray, List.set_cons_zero, List.set_cons_succ]
        refine anyB_take (i := 5) (v := ?v351_5) rfl (by kernel_rfl) (by kernel_rfl) (by kernel_rfl) (by kernel_rfl) (fun _ _ _ h => h) (Or.inl ⟨by kernel_rfl, ?y351_5⟩) (by kernel_rfl) hHeld ?r351_5
        case y351_5 => ((rintro w ⟨hTw, hSw⟩; obtain ⟨⟨c0, c1, c2, c3⟩, ⟨a0, a1, a2, a3⟩, hl0, hl1, m0, m1, hlm, hsz⟩ := HF.out _ (HG7.out.trans hSw); obtain ⟨e0, e1, e4, e3, hb⟩ := HE.out _ (HG7.out.trans hSw); obtain ⟨y0, y1, y2, y3⟩ := (HD13.out.grows hSw).four; have hl3 := (HD13.out.grows hSw).lt; clear hSw hTw; go_simp); (try go_ints); (try with_reducible rfl))
        try simp only [Act.put, List.getElem_toArray, List.getElem_cons_succ, List.getElem_cons_zero, List.setIfInBounds_toArray, List.set_cons_zero, List.set_cons_succ]
        refine anyB_ready (i := 6) (by kernel_rfl) rfl (fun K hK => ?_)
        simp only [List.getElem_toArray, List.getElem_cons_succ, List.getElem_cons_zero]
        go_simp
        (go_at_call 13; (go_must (with_reducible refine (HC.out _ (HG7.out.trans hgS)).mono ?_)); rintro e w8 ⟨v1, v2, rfl, hv1, hv2, hnew, hgc⟩)
        refine hK.out _ _ ⟨?_, ?_⟩ ?_
        · ((try dsimp only); exact Grows.same (hgS.trans (by repeat' (first | (with_reducible exact hgc) | (with_reducible exact Grows.refl _) | (with_reducible refine Grows.alloc ?_ _) | (with_reducible refine Grows.drew ?_) | (with_reducible refine Grows.ext ?_ _ _)))) _)
        · ((try dsimp only); exact hgS.trans (by repeat' (first | (with_reducible exact hgc) | (with_reducible exact Grows.refl _) | (with_reducible refine Grows.alloc ?_ _) | (with_reducible refine Grows.drew ?_) | (with_reducible refine Grows.ext ?_ _ _))))
        clear hK K hHeld
        intro hHeld
        try simp only [Act.put, List.getElem_toArray, List.getElem_cons_succ, List.getElem_cons_zero, List.setIfInBounds_toArray, List.set_cons_zero, List.set_cons_succ]
        refine abs_anyB (fun W' => Grows X345 W' ∧ (CellsAt 5 W' v1 q.1.length (tilC q.1) ∧ CellsAt 5 W' v2 q.2.length (rulC q.2))) ⟨(by repeat' (first | (with_reducible exact hgc) | (with_reducible exact Grows.refl _) | (with_reducible refine Grows.alloc ?_ _) | (with_reducible refine Grows.drew ?_) | (with_reducible refine Grows.ext ?_ _ _))), ⟨hv1, hv2⟩⟩ ?_
        clear hHeld
        rintro X352 ⟨hgn, hex⟩
        have HV := Lib.hid hex
        have hgS := hgS.trans hgn
        have hsS := hgS.size
        clear hgn hex
        have hHeld := And.intro (Grows.same (hgS) (fun b => b ≠ (p2 + 1))) hgS
        refine anyB_takeT (i := 7) (v := ?v353_7) rfl (by kernel_rfl) (by kernel_rfl) (by kernel_rfl) (by kernel_rfl) (fun _ _ _ h => h) (Or.inl ⟨by kernel_rfl, ?y353_7⟩) hHeld.1 (fun _ => hHeld.2) ?r353_7
        case y353_7 => ((intro w hTw; skip; clear hTw; go_simp); (try go_ints); (try with_reducible rfl))
        try simp only [Act.put, List.getElem_toArray, List.getElem_cons_succ, List.getElem_cons_zero, List.setIfInBounds_toArray, List.set_cons_zero, List.set_cons_succ]
        refine anyB_takeT (i := 8) (v := ?v354_8) rfl (by kernel_rfl) (by kernel_rfl) (by kernel_rfl) (by kernel_rfl) (fun _ _ _ h => h) (Or.inl ⟨by kernel_rfl, ?y354_8⟩) hHeld.1 (fun _ => hHeld.2) ?r354_8
        case y354_8 => ((intro w hTw; skip; clear hTw; go_simp); (try go_ints); (try with_reducible rfl))
        try simp only [Act.put, List.getElem_toArray, List.getElem_cons_succ, List.getElem_cons_zero, List.setIfInBounds_toArray, List.set_cons_zero, List.set_cons_succ]
        refine anyB_takeT (i := 9) (v := ?v355_9) rfl (by kernel_rfl) (by kernel_rfl) (by kernel_rfl) (by kernel_rfl) (fun _ _ _ h => h) (Or.inl ⟨by kernel_rfl, ?y355_9⟩) hHeld.1 (fun _ => hHeld.2) ?r355_9
        case y355_9 => ((intro w hTw; skip; clear hTw; go_simp); (try go_ints); (try with_reducible rfl))
        try simp only [Act.put, List.getElem_toArray, List.getElem_cons_succ, List.getElem_cons_zero, List.setIfInBounds_toArray, List.set_cons_zero, List.set_cons_succ]
        refine anyB_takeT (i := 10) (v := ?v356_10) rfl (by kernel_rfl) (by kernel_rfl) (by kernel_rfl) (by kernel_rfl) (fun _ _ _ h => h) (Or.inl ⟨by kernel_rfl, ?y356_10⟩) hHeld.1 (fun _ => hHeld.2) ?r356_10
        case y356_10 => ((intro w hTw; skip; clear hTw; go_simp); (try go_ints); (try with_reducible rfl))
        try simp only [Act.put, List.getElem_toArray, List.getElem_cons_succ, List.getElem_cons_zero, List.setIfInBounds_toArray, List.set_cons_zero, List.set_cons_succ]
        refine anyB_takeT (i := 11) (v := ?v357_11) rfl (by kernel_rfl) (by kernel_rfl) (by kernel_rfl) (by kernel_rfl) (fun _ _ _ h => h) (Or.inl ⟨by kernel_rfl, ?y357_11⟩) hHeld.1 (fun _ => hHeld.2) ?r357_11
        case y357_11 => ((intro w hTw; skip; clear hTw; go_simp); (try go_ints); (try with_reducible rfl))
        try simp only [Act.put, List.getElem_toArray, List.getElem_cons_succ, List.getElem_cons_zero, List.setIfInBounds_toArray, List.set_cons_zero, List.set_cons_succ]
        refine anyB_done (by kernel_rfl) ?_ _
        try clear hHeld
        have hrx := HR7.out.grows hgS
        have hap : ∀ b, u6.ownBlock = some b → v2.ownBlock ≠ some b := fun b e e2 => by have g1 := (HR7.out.t.lt b e).2; have g2 := hnew b e2; omega
        have hgq := HG7.out.trans hgS
        go_wp2_with (first | (at_builtin; refine wpList_appO _ rfl (.tmp 131) (.tmp 132) 29 rfl B 41 i29 _ 5 40 Try.underlying29 hi29 hz29 hs29 hb29 rfl (by decide) _ _ (tilC (pT m)) (tilC q.1) hrx.t HV.out.1 (tilC_one _) (by unfold maxLen; omega) (by omega) (by have := hgq.size; omega) ?_; intro v8 w8 row8 q1 q2 q3 q4; have hr8 := hrx.addT q1 q2 q3 q4; have hg8 : Grows W1 w8 := appended_grows hgq q2 (fun k e => by rw [hBe]; exact (q3 k e).1); have hv8 := HV.out.2.kept q2 (fun k e => hap k (q3 k e).2.2)) | (at_builtin; refine wpList_appO _ rfl (.tmp 134) (.tmp 135) 30 rfl B 44 i30 _ 5 40 Try.underlying30 hi30 hz30 hs30 hb30 rfl (by decide) _ _ (rulC (pI m)) (rulC q.2) hr8.i hv8 (rulC_one _) (by unfold maxLen; omega) (by omega) (by have := hg8.size; omega) ?_; intro v9 w9 row9 q1 q2 q3 q4; have hr9 := hr8.addI q1 q2 q3 q4; have hg9 : Grows W1 w9 := appended_grows hg8 q2 (fun k e => by rw [hBe]; exact (q3 k e).1)))
        go_roundw
        case rel => exact ⟨m + 1, _, rfl, by omega, by go_num, by rw [HNX.out], by rw [HS.out.1, HS.out.2, HU.out, List.length_append, List.length_append, List.length_append, ← tilC_append, ← rulC_append, ← rulC_append]; exact hr9, hg9⟩
        case measure => simp [intOf]; omega
    · have e : m = ks.length := by omega
      subst e
      clear hro hg
      go_wp2_with (at_builtin; refine wpList_appO _ rfl (.tmp 138) (.tmp 139) 30 rfl B 44 i30 _ 5 40 Try.underlying30 hi30 hz30 hs30 hb30 rfl (by decide) _ _ (rulC (pU ks.length)) (rulC (pI ks.length)) HRO.out.u (ownsRow_cells HRO.out.i) (rulC_one _) (by unfold maxLen; omega) (by omega) (by omega) ?_; intro v8 w8 row8 q1 q2 q3 q4; have hr8 := HRO.out.addU q1 q2 q3 q4; have hg8 : Grows W1 w8 := appended_grows HG.out q2 (fun k e => by rw [hBe]; exact (q3 k e).1))
      go_returns
      refine ⟨_, _, rfl, ?_, ?_, ?_, (HG0.out.trans HG1.out).trans hg8⟩
      · exact ownsRow_cells hr8.t
      · have := ownsRow_cells hr8.u
        rw [rulC_append] at this
        rw [List.length_append]
        exact this
      · intro b' e
        have h1 := (hr8.u.lt b' e).1
        have h2 := (HG0.out.trans HG1.out).size
        omega
end Go.Proofs.Ytbobpgegkmcapaa

