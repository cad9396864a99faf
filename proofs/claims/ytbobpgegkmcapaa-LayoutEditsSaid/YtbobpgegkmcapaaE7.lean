/-
  Walks: tile. Walks: tile whole, Tile.
-/
import Derived.Test.YtbobpgegkmcapaaRows
import Derived.Test.YtbobpgegkmcapaaE1
import Derived.Test.YtbobpgegkmcapaaE2
import Derived.Test.YtbobpgegkmcapaaE6
import Derived.WalkKit
import Derived.WalkSpells
import Derived.WalkLawsBesides
import Derived.Handy
import Derived.Laws.Rows
import Derived.Great.BuildSlice
import Derived.Deep.Heap
import Derived.IntWalk
import Derived.Lib.Hide
import Derived.Outline
import Derived.Deep.Light
import Derived.Deep.LoopGhost
import Derived.BigGuardPart
import Derived.BigQuiet
import Derived.Deep.QuietTactic
import Derived.Deep.RegionHeld3
import Derived.Deep.DeepCutAuto
import Derived.Deep.CutBlock
import Derived.OwnWalk
import Derived.Maps.AppendAt
import Derived.Laws.EntriesVeiled
import Derived.Great.Walk
import Derived.Test.YtbobpgegkmcapaaE3
import Derived.Test.YtbobpgegkmcapaaE5
namespace Go.Proofs.Ytbobpgegkmcapaa
open Go.RowKit

theorem part_any {k : Int} (hk : k = 2 ∨ k = 3) (row col rows cols o n : Int) (h : -20000 ≤ col + o ∧ col + o ≤ 40000) (h2 : -20000 ≤ row + o ∧ row + o ≤ 40000) (w : World) : Calls Try.prog 71 #[.agg #[.int .i64 row, .int .i64 col, .int .i64 rows, .int .i64 cols], .int .i64 k, .int .i64 o, .int .i64 n] w (Ret (.agg #[.int .i64 (partR k ⟨row, col, rows, cols⟩ o n).row, .int .i64 (partR k ⟨row, col, rows, cols⟩ o n).col, .int .i64 (partR k ⟨row, col, rows, cols⟩ o n).rows, .int .i64 (partR k ⟨row, col, rows, cols⟩ o n).cols]) w) := by
  rcases hk with rfl | rfl
  · exact part_2 row col rows cols o n h w
  · exact part_3 row col rows cols o n h2 w
theorem lengths_any {S : Nat → Prop} {k : Int} (hk : k = 2 ∨ k = 3) (p : Int) (ks : List Lay) (ws : List Int) (hok : okTree (.mk k p ks ws) = true) (hn : (panesL (.mk k p ks ws)).length ≤ 1000) (row col rows cols : Int) (hc : 0 ≤ cols ∧ cols ≤ 10000) (hr : 0 ≤ rows ∧ rows ≤ 10000)
    (hrest : 0 ≤ restL (.mk k p ks ws) ⟨row, col, rows, cols⟩) (vk vw : Value) (w : World) (h : LayAt S w (.mk k p ks ws) vk vw) :
    Calls Try.prog 70 #[.agg #[.int .i64 row, .int .i64 col, .int .i64 rows, .int .i64 cols], .agg #[.int .i64 k, .int .i64 p, vk, vw]] w (fun e w' => ∃ v, e = .returned v ∧ IntsAt (fun _ => True) w' v (lensOf (.mk k p ks ws) ⟨row, col, rows, cols⟩) ∧ Grows w w') := by
  rcases hk with rfl | rfl
  · exact lengths_2 p ks ws hok hn row col rows cols hc hr hrest vk vw w h
  · exact lengths_3 p ks ws hok hn row col rows cols hc hr hrest vk vw w h
theorem tile_leaf (p row col rows cols : Int) (a wa : Option Addr) (kn cap wn wc : Nat) (w : World) : Calls Try.prog 40 #[.agg #[.int .i64 row, .int .i64 col, .int .i64 rows, .int .i64 cols], .agg #[.int .i64 1, .int .i64 p, .slice a kn cap, .slice wa wn wc]] w (fun e w' => TileRes w w' ([⟨p, ⟨row, col, rows, cols⟩⟩], []) e) := by
  go_enter Try.func40, Try.ntmps40
  go_wp2
  go_returns
  refine ⟨_, _, rfl, ?_, ?_, (fun b e => by cases e), (by repeat' (first | (with_reducible exact Grows.refl _) | (with_reducible refine Grows.alloc ?_ _) | (with_reducible refine Grows.drew ?_) | (with_reducible refine Grows.ext ?_ _ _)))⟩
  · rw [tilC_single]
    exact cells_new5 (by simp) rfl rfl
  · exact ⟨rfl, none, 0, rfl, Nat.le_refl _, fun h => absurd rfl h⟩
set_option maxRecDepth 100000 in
set_option maxHeartbeats 4000000 in
theorem tile_split {S : Nat → Prop} (k p : Int) (ks : List Lay) (ws : List Int) (hk : ¬ k = 1) (hok : okTree (.mk k p ks ws) = true) (hn : (panesL (.mk k p ks ws)).length ≤ 1000) (row col rows cols : Int) (h0 : 0 ≤ row ∧ 0 ≤ col) (hc : cols ≤ 10000 ∧ col + cols ≤ 30000) (hr : rows ≤ 10000 ∧ row + rows ≤ 30000)
    (hf : fitsR (.mk k p ks ws) ⟨row, col, rows, cols⟩) (vk vw : Value) (w : World) (h : LayAt S w (.mk k p ks ws) vk vw)
    (ih : ∀ x ∈ ks, okTree x = true → (panesL x).length ≤ 1000 → ∀ (row col rows cols : Int), (0 ≤ row ∧ 0 ≤ col) → (cols ≤ 10000 ∧ col + cols ≤ 30000) → (rows ≤ 10000 ∧ row + rows ≤ 30000) → fitsR x ⟨row, col, rows, cols⟩ → ∀ (vk vw : Value) (w : World), LayAt S w x vk vw → Calls Try.prog 40 #[.agg #[.int .i64 row, .int .i64 col, .int .i64 rows, .int .i64 cols], .agg #[.int .i64 x.kind, .int .i64 x.pane, vk, vw]] w (fun e w' => TileRes w w' (tileL x ⟨row, col, rows, cols⟩) e)) :
    Calls Try.prog 40 #[.agg #[.int .i64 row, .int .i64 col, .int .i64 rows, .int .i64 cols], .agg #[.int .i64 k, .int .i64 p, vk, vw]] w (fun e w' => TileRes w w' (tileL (.mk k p ks ws) ⟨row, col, rows, cols⟩) e) := by
  obtain ⟨i29, hi29, hz29, hs29, hb29⟩ := info_parts info41
  obtain ⟨i30, hi30, hz30, hs30, hb30⟩ := info_parts info44
  obtain ⟨hk23, -, h2, -, -, -, hkok⟩ := split_facts hok hk
  have hmb := min_bounds _ hok
  have hlen : (panesL (.mk k p ks ws)).length = ((ks.map panesL).flatten).length := by rw [panesL_mk, if_neg hk]
  have hks := len_kids (ks := ks) hkok
  obtain ⟨a, cap, G, rfl, hcap, hmx, hin⟩ := h.kids.open_ rfl
  obtain ⟨wa, wc, rfl, -, -, -⟩ := h.ints.open_ rfl
  dsimp only [Lay.kids, Lay.ws] at hcap hmx hin h ⊢
  have hrest := rest_nonneg hf
  have hfc := hf.1
  have hfr := hf.2
  dsimp only at hfc hfr
  have hrc1 : 1 ≤ cols ∧ 1 ≤ rows := by omega
  have HLEN := Lib.hid fun W (g : Grows w W) => lengths_any (S := S) hk23 p ks ws hok hn row col rows cols (by omega) (by omega) hrest _ _ W (h.grows g)
  have HKID := Lib.hid fun (i : Nat) (x : Lay) (hx : ks[i]? = some x) => kid_place hok hk hf hx
  have HFIT := Lib.hid fun (i : Nat) (x : Lay) (hx : ks[i]? = some x) => kid_fits hok hk hf hx
  have HPRE := Lib.hid fun (m : Nat) => pre_le hok hk ⟨row, col, rows, cols⟩ m
  have HSN := Lib.hid fun (m : Nat) (x : Lay) (hx : ks[m]? = some x) => pre_snoc (l := .mk k p ks ws) (r := ⟨row, col, rows, cols⟩) (m := m) (x := x) hx
  have HUS := Lib.hid fun (m : Nat) (hm : m < ks.length) (h0 : 0 < m) => preU_snoc (l := .mk k p ks ws) (r := ⟨row, col, rows, cols⟩) (m := m) hm h0
  have HUL := Lib.hid fun (m : Nat) (hm : m ≤ ks.length) => preU_len (.mk k p ks ws) ⟨row, col, rows, cols⟩ m hm
  have HIH := Lib.hid fun (x : Lay) (hx : x ∈ ks) => ih x hx (hkok x hx) (by have := len_mem hx; omega)
  have HZ := Lib.hid (pre_zero (.mk k p ks ws) ⟨row, col, rows, cols⟩)
  have HU1 := Lib.hid (preU_one (.mk k p ks ws) ⟨row, col, rows, cols⟩)
  have hkk : (k == 1) = false := by simpa using hk
  have HIN := Lib.hid hin
  have hkn : ks.length ≤ 1000 := by omega
  have HLL := Lib.hid (show (lensOf (.mk k p ks ws) ⟨row, col, rows, cols⟩).length = ks.length from lens_len _ _ _ _)
  rw [tile_whole hk]
  dsimp only [Lay.kind] at HSN HUS
  have HOF := Lib.hid fun (i : Nat) => (show offL (lensOf (.mk k p ks ws) ⟨row, col, rows, cols⟩) i = sumI ((lensOf (.mk k p ks ws) ⟨row, col, rows, cols⟩).take i) + i from rfl)
  clear hin h ih hkok hok hf hmb hlen hks hrest hk
  generalize lensOf (.mk k p ks ws) ⟨row, col, rows, cols⟩ = lens at *
  generalize preT (.mk k p ks ws) ⟨row, col, rows, cols⟩ = pT at *
  generalize preI (.mk k p ks ws) ⟨row, col, rows, cols⟩ = pI at *
  generalize preU (.mk k p ks ws) ⟨row, col, rows, cols⟩ = pU at *
  generalize (panesL (.mk k p ks ws)).length = np at *
  generalize ws.length = wn at *
  go_enter Try.func40, Try.ntmps40
  go_upto_region 1 with fail
  refine abs_worldM (fun W => Grows w W ∧ Blk W w.heap.size 79 #[.int .i64 row, .int .i64 col, .int .i64 rows, .int .i64 cols] ∧ Blk W (w.heap.size + 1) 25 #[.int .i64 k, .int .i64 p, .slice a ks.length cap, .slice wa wn wc]) ?_ ?_
  · exact boxes2 _ _ _
  rintro W0 ⟨hg0, hb0, hb1⟩
  obtain ⟨a0, a1, a2, a3⟩ := hb0.four
  obtain ⟨c0, c1, c2, c3⟩ := hb1.four
  have hl0 := hb0.lt
  have hl1 := hb1.lt
  have HB0 := Lib.hid hb0
  have HB1 := Lib.hid hb1
  have HG0 := Lib.hid hg0
  clear hb0 hb1 hg0
  go_wp2_with (go_at_call 70; (with_reducible refine (HLEN.out _ HG0.out).mono ?_); rintro e W1 ⟨vl, rfl, hvl, hg1⟩; obtain ⟨la, lc, rfl, hlc, hlm, hli⟩ := hvl.open_ HLL.out)
  obtain ⟨B, hBe⟩ : ∃ z, W1.heap.size = z := ⟨_, rfl⟩
  have HLI := Lib.hid hli
  have HG1 := Lib.hid hg1
  have HF := Lib.hid fun W (g : Grows W1 W) => (⟨(HB0.out.grows (hg1.trans g)).four, (HB1.out.grows (hg1.trans g)).four, (HB0.out.grows (hg1.trans g)).lt, (HB1.out.grows (hg1.trans g)).lt, g.size⟩ : (_ ∧ _ ∧ _ ∧ _) ∧ (_ ∧ _ ∧ _ ∧ _) ∧ _ ∧ _ ∧ _)
  have HIN1 := Lib.hid (HIN.out.grows (HG0.out.trans hg1))
  clear hvl hli hg1 a0 a1 a2 a3 c0 c1 c2 c3 hl0 hl1 HLEN HIN
  go_loopw [4, 5, 6, 7, 25] (fun v4 v5 o v7 i wr => ∃ m : Nat, ∃ wv : World, wv = wr ∧ m ≤ ks.length ∧ i = .int .i64 m ∧ o = .int .i64 (sumI (lens.take m) + ((m - 1 : Nat) : Int)) ∧ Row3 B wv v4 v5 v7 (pT m).length (pU m).length (pI m).length (tilC (pT m)) (rulC (pU m)) (rulC (pI m)) ∧ Grows W1 wv) (fun _ _ _ _ i _ => ks.length - (intOf i).toNat)
  case atStart =>
    obtain ⟨z1, z2, z3⟩ := HZ.out
    exact ⟨0, _, rfl, Nat.zero_le _, rfl, rfl, by rw [z1, z2, z3]; exact Row3.nil _ _, Grows.refl _⟩
  case round =>
    obtain ⟨m, wv, rfl, hm, rfl, rfl, hro, hg⟩ := hrel
    have hof := HOF.out m
    have hpre := HPRE.out m
    have hul := HUL.out m hm
    have HG := Lib.hid hg
    have HRO := Lib.hid hro
    by_cases hlt : m < ks.length
    · obtain ⟨⟨a0, a1, a2, a3⟩, ⟨c0, c1, c2, c3⟩, hl0, hl1, hsz⟩ := HF.out _ hg
      obtain ⟨lb, loff, n, rfl, hlb, -, hn1, -, d0⟩ := ((HLI.out).grows hg).at_ (i := m) (by rw [HLL.out]; exact hlt)
      obtain ⟨b, off, x, ka, kn, kc, xa, xn, xc, rfl, hb, -, hx, hmem, -, -, e0, e1, e4, e3, hL⟩ := HIN1.out.at_ hlt
      have HE := Lib.hid fun W (g : Grows W1 W) => (⟨(g.cellOf hb).trans e0, (g.cellOf hb).trans e1, (g.cellOf hb).trans e4, (g.cellOf hb).trans e3, Nat.lt_of_lt_of_le hb g.size⟩ : _ ∧ _ ∧ _ ∧ _ ∧ _)
      clear e0 e1 e4 e3 hb
      obtain ⟨n', hn2, -, hp1, hp2, hp3, -⟩ := HKID.out m x hx
      obtain rfl : n = n' := Option.some.inj (hn1.symm.trans hn2)
      obtain ⟨hft, hins⟩ := HFIT.out m x hx
      have hpart : partL k lens ⟨row, col, rows, cols⟩ m = partR k ⟨row, col, rows, cols⟩ (offL lens m) n := by unfold partL; rw [hn1]; rfl
      have hpre2 := HPRE.out (m + 1)
      obtain ⟨s1, s2⟩ := HSN.out m x hx
      have hsm : sumI (lens.take (m + 1)) = sumI (lens.take m) + n := by rw [take_snoc hn1, sumI_snoc]
      have hus := HUS.out m hlt
      unfold ruleL at hus
      obtain ⟨oo, hoo⟩ : ∃ z, offL lens m = z := ⟨_, rfl⟩
      rw [hpart] at s1 s2 hft hins
      rw [hoo] at s1 s2 hft hins hp2 hp3 hof hus
      rw [s1, s2, List.length_append, List.length_append] at hpre2
      have hal : alongL k cols rows ≤ 10000 := by unfold alongL; split <;> omega
      obtain ⟨j1, j2, j3, j4⟩ := hins
      dsimp only at j1 j2 j3 j4 hp3 hp2
      have HC := Lib.hid fun W (g : Grows W1 W) => HIH.out x hmem (partR k ⟨row, col, rows, cols⟩ oo n).row (partR k ⟨row, col, rows, cols⟩ oo n).col (partR k ⟨row, col, rows, cols⟩ oo n).rows (partR k ⟨row, col, rows, cols⟩ oo n).cols (by omega) (by omega) (by omega) hft _ _ W (hL.grows g)
      obtain ⟨o, ho⟩ : ∃ z, sumI (lens.take m) + ((m - 1 : Nat) : Int) = z := ⟨_, rfl⟩
      have hnx : sumI (lens.take (m + 1)) + ((m + 1 - 1 : Nat) : Int) = oo + n := by omega
      rw [ho]
      have hoo2 : oo ≤ 10000 := by omega
      have HS := Lib.hid (And.intro s1 s2)
      have HNX := Lib.hid hnx
      obtain ⟨q, hq⟩ : ∃ z, tileL x (partR k ⟨row, col, rows, cols⟩ oo n) = z := ⟨_, rfl⟩
      rw [hq] at hpre2
      have HQ := Lib.hid hq
      have HQ2 := Lib.hid (show tileL x ⟨(partR k ⟨row, col, rows, cols⟩ oo n).row, (partR k ⟨row, col, rows, cols⟩ oo n).col, (partR k ⟨row, col, rows, cols⟩ oo n).rows, (partR k ⟨row, col, rows, cols⟩ oo n).cols⟩ = q from hq)
      clear s1 s2 hft j1 j2 j3 j4 hx hmem hL hpart hnx hn1 hn2 hq
      by_cases hm0 : m < 1
      · have e : oo = o := by omega
        subst e
        have hu : pU (m + 1) = pU m := by
          obtain rfl : m = 0 := by omega
          rw [HZ.out.2.1]
          exact HU1.out
        have HU := Lib.hid hu
        clear hu
        have HRX := Lib.hid HRO.out
        have hgx := HG.out
        clear hul hro hg ho hof hsm hus
        go_upto_region 11 with fail
        refine wp_region_held_drew (S := fun w' => Grows W1 w') (by kernel_rfl) ?_ (fun hHeld => ?_)
        · (first | exact hgx | exact hgq | exact hgx.trans (by repeat' (first | (with_reducible exact Grows.refl _) | (with_reducible refine Grows.alloc ?_ _) | (with_reducible refine Grows.drew ?_) | (with_reducible refine Grows.ext ?_ _ _))))
        refine wpAnyH_take (i := 0) (v := ?v46_0) rfl (by kernel_rfl) (by kernel_rfl) (by kernel_rfl) (fun _ _ _ h => h) (Or.inl ⟨by kernel_rfl, ?y46_0⟩) (by assumption) ?r46_0
        case y46_0 => ((intro w hSw; obtain ⟨⟨a0, a1, a2, a3⟩, ⟨c0, c1, c2, c3⟩, hl0, hl1, hsz⟩ := HF.out w hSw; obtain ⟨e0, e1, e4, e3, hb⟩ := HE.out w hSw; clear hSw; go_simp); (try go_ints); (try with_reducible rfl))
        try simp only [Act.put, List.getElem_toArray, List.getElem_cons_zero, List.setIfInBounds_toArray, List.set_cons_zero, List.set_cons_succ]
        refine wpAnyH_take (i := 1) (v := ?v47_1) rfl (by kernel_rfl) (by kernel_rfl) (by kernel_rfl) (fun _ _ _ h => h) (Or.inl ⟨by kernel_rfl, ?y47_1⟩) (by assumption) ?r47_1
        case y47_1 => ((intro w hSw; obtain ⟨⟨a0, a1, a2, a3⟩, ⟨c0, c1, c2, c3⟩, hl0, hl1, hsz⟩ := HF.out w hSw; obtain ⟨e0, e1, e4, e3, hb⟩ := HE.out w hSw; clear hSw; go_simp); (try go_ints); (try with_reducible rfl))
        try simp only [Act.put, List.getElem_toArray, List.getElem_cons_succ, List.getElem_cons_zero, List.setIfInBounds_toArray, List.set_cons_zero, List.set_cons_succ]
        refine wpAnyH_take (i := 2) (v := ?v48_2) rfl (by kernel_rfl) (by kernel_rfl) (by kernel_rfl) (fun _ _ _ h => h) (Or.inl ⟨by kernel_rfl, ?y48_2⟩) (by assumption) ?r48_2
        case y48_2 => ((intro w hSw; obtain ⟨⟨a0, a1, a2, a3⟩, ⟨c0, c1, c2, c3⟩, hl0, hl1, hsz⟩ := HF.out w hSw; obtain ⟨e0, e1, e4, e3, hb⟩ := HE.out w hSw; clear hSw; go_simp); (try go_ints); (try with_reducible rfl))
        try simp only [Act.put, List.getElem_toArray, List.getElem_cons_succ, List.getElem_cons_zero, List.setIfInBounds_toArray, List.set_cons_zero, List.set_cons_succ]
        refine wpAnyH_take (i := 3) (v := ?v49_3) rfl (by kernel_rfl) (by kernel_rfl) (by kernel_rfl) (fun _ _ _ h => h) (Or.inl ⟨by kernel_rfl, ?y49_3⟩) (by assumption) ?r49_3
        case y49_3 => ((intro w hSw; obtain ⟨⟨a0, a1, a2, a3⟩, ⟨c0, c1, c2, c3⟩, hl0, hl1, hsz⟩ := HF.out w hSw; obtain ⟨e0, e1, e4, e3, hb⟩ := HE.out w hSw; clear hSw; go_simp); (try go_ints); (try with_reducible rfl))
        try simp only [Act.put, List.getElem_toArray, List.getElem_cons_succ, List.getElem_cons_zero, List.setIfInBounds_toArray, List.set_cons_zero, List.set_cons_succ]
        refine wpAnyH_take (i := 4) (v := ?v50_4) rfl (by kernel_rfl) (by kernel_rfl) (by kernel_rfl) (fun _ _ _ h => h) (Or.inl ⟨by kernel_rfl, ?y50_4⟩) (by assumption) ?r50_4
        case y50_4 => ((intro w hSw; obtain ⟨⟨a0, a1, a2, a3⟩, ⟨c0, c1, c2, c3⟩, hl0, hl1, hsz⟩ := HF.out w hSw; obtain ⟨e0, e1, e4, e3, hb⟩ := HE.out w hSw; clear hSw; go_simp); (try go_ints); (try with_reducible rfl))
        try simp only [Act.put, List.getElem_toArray, List.getElem_cons_succ, List.getElem_cons_zero, List.setIfInBounds_toArray, List.set_cons_zero, List.set_cons_succ]
        refine wpAnyH_take (i := 7) (v := ?v51_7) rfl (by kernel_rfl) (by kernel_rfl) (by kernel_rfl) (fun _ _ _ h => h) (Or.inl ⟨by kernel_rfl, ?y51_7⟩) (by assumption) ?r51_7
        case y51_7 => ((intro w hSw; obtain ⟨⟨a0, a1, a2, a3⟩, ⟨c0, c1, c2, c3⟩, hl0, hl1, hsz⟩ := HF.out w hSw; obtain ⟨e0, e1, e4, e3, hb⟩ := HE.out w hSw; clear hSw; go_simp); (try go_ints); (try with_reducible rfl))
        try simp only [Act.put, List.getElem_toArray, List.getElem_cons_succ, List.getElem_cons_zero, List.setIfInBounds_toArray, List.set_cons_zero, List.set_cons_succ]
        refine wpAnyH_take (i := 8) (v := ?v52_8) rfl (by kernel_rfl) (by kernel_rfl) (by kernel_rfl) (fun _ _ _ h => h) (Or.inl ⟨by kernel_rfl, ?y52_8⟩) (by assumption) ?r52_8
        case y52_8 => ((intro w hSw; obtain ⟨⟨a0, a1, a2, a3⟩, ⟨c0, c1, c2, c3⟩, hl0, hl1, hsz⟩ := HF.out w hSw; obtain ⟨e0, e1, e4, e3, hb⟩ := HE.out w hSw; clear hSw; go_simp); (try go_ints); (try with_reducible rfl))
        try simp only [Act.put, List.getElem_toArray, List.getElem_cons_succ, List.getElem_cons_zero, List.setIfInBounds_toArray, List.set_cons_zero, List.set_cons_succ]
        refine wpAnyH_take (i := 9) (v := ?v53_9) rfl (by kernel_rfl) (by kernel_rfl) (by kernel_rfl) (fun _ _ _ h => h) (Or.inl ⟨by kernel_rfl, ?y53_9⟩) (by assumption) ?r53_9
        case y53_9 => ((intro w hSw; obtain ⟨⟨a0, a1, a2, a3⟩, ⟨c0, c1, c2, c3⟩, hl0, hl1, hsz⟩ := HF.out w hSw; obtain ⟨e0, e1, e4, e3, hb⟩ := HE.out w hSw; clear hSw; go_simp); (try go_ints); (try with_reducible rfl))
        try simp only [Act.put, List.getElem_toArray, List.getElem_cons_succ, List.getElem_cons_zero, List.setIfInBounds_toArray, List.set_cons_zero, List.set_cons_succ]
        refine wpAnyH_take (i := 10) (v := ?v54_10) rfl (by kernel_rfl) (by kernel_rfl) (by kernel_rfl) (fun _ _ _ h => h) (Or.inl ⟨by kernel_rfl, ?y54_10⟩) (by assumption) ?r54_10
        case y54_10 => ((intro w hSw; obtain ⟨⟨a0, a1, a2, a3⟩, ⟨c0, c1, c2, c3⟩, hl0, hl1, hsz⟩ := HF.out w hSw; obtain ⟨e0, e1, e4, e3, hb⟩ := HE.out w hSw; clear hSw; go_simp); (try go_ints); (try with_reducible rfl))
        try simp only [Act.put, List.getElem_toArray, List.getElem_cons_succ, List.getElem_cons_zero, List.setIfInBounds_toArray, List.set_cons_zero, List.set_cons_succ]
        refine wpAnyH_take (i := 11) (v := ?v55_11) rfl (by kernel_rfl) (by kernel_rfl) (by kernel_rfl) (fun _ _ _ h => h) (Or.inl ⟨by kernel_rfl, ?y55_11⟩) (by assumption) ?r55_11
        case y55_11 => ((intro w hSw; obtain ⟨⟨a0, a1, a2, a3⟩, ⟨c0, c1, c2, c3⟩, hl0, hl1, hsz⟩ := HF.out w hSw; obtain ⟨e0, e1, e4, e3, hb⟩ := HE.out w hSw; clear hSw; go_simp); (try go_ints); (try with_reducible rfl))
        try simp only [Act.put, List.getElem_toArray, List.getElem_cons_succ, List.getElem_cons_zero, List.setIfInBounds_toArray, List.set_cons_zero, List.set_cons_succ]
        refine wpAnyH_ready (rs := [5]) (by kernel_rfl) (by simp) ?_
        refine AllReadyH.cons rfl (fun K hK => ?_) AllReadyH.nil
        simp only [List.getElem_toArray, List.getElem_cons_succ, List.getElem_cons_zero]
        go_simp
        (go_at_call 71; (with_reducible refine (part_any hk23 _ _ _ _ _ _ (by omega) (by omega) _).mono ?_); rintro e w1 ⟨rfl, h1, d1, rfl⟩)
        refine hK.out _ _ ?_ ?_
        · ((try dsimp only); first | exact hgx | exact hgq | exact hgx.trans (by repeat' (first | (with_reducible exact Grows.refl _) | (with_reducible refine Grows.alloc ?_ _) | (with_reducible refine Grows.drew ?_) | (with_reducible refine Grows.ext ?_ _ _))))
        clear hK K hHeld
        intro hHeld
        try simp only [Act.put, List.getElem_toArray, List.getElem_cons_succ, List.getElem_cons_zero, List.setIfInBounds_toArray, List.set_cons_zero, List.set_cons_succ]
        refine wpAnyH_take (i := 6) (v := ?v57_6) rfl (by kernel_rfl) (by kernel_rfl) (by kernel_rfl) (fun _ _ _ h => h) (Or.inl ⟨by kernel_rfl, ?y57_6⟩) (by assumption) ?r57_6
        case y57_6 => ((intro w hSw; obtain ⟨⟨a0, a1, a2, a3⟩, ⟨c0, c1, c2, c3⟩, hl0, hl1, hsz⟩ := HF.out w hSw; obtain ⟨e0, e1, e4, e3, hb⟩ := HE.out w hSw; clear hSw; go_simp); (try go_ints); (try with_reducible rfl))
        try simp only [Act.put, List.getElem_toArray, List.getElem_cons_succ, List.getElem_cons_zero, List.setIfInBounds_toArray, List.set_cons_zero, List.set_cons_succ]
        refine wpAnyH_ready (rs := [12]) (by kernel_rfl) (by simp) ?_
        refine AllReadyH.cons rfl (fun K hK => ?_) AllReadyH.nil
        simp only [List.getElem_toArray, List.getElem_cons_succ, List.getElem_cons_zero]
        go_simp
        (go_at_call 40; (with_reducible refine (HC.out _ (hgx.trans (by repeat' (first | (with_reducible exact Grows.refl _) | (with_reducible refine Grows.alloc ?_ _) | (with_reducible refine Grows.drew ?_) | (with_reducible refine Grows.ext ?_ _ _))))).mono ?_); rintro e w2 ⟨v1, v2, rfl, hv1, hv2, hnew, hg2⟩; rw [HQ2.out] at hv1 hv2; have hrx := HRX.out.grows (Grows.trans (by repeat' (first | (with_reducible exact Grows.refl _) | (with_reducible refine Grows.alloc ?_ _) | (with_reducible refine Grows.drew ?_) | (with_reducible refine Grows.ext ?_ _ _))) hg2); have hap : ∀ b, u4.ownBlock = some b → v2.ownBlock ≠ some b := (fun b e e2 => by have g1 := (HRX.out.t.lt b e).2; have g2 := hnew b e2; simp at g2; omega); have hgq := (hgx.trans (by repeat' (first | (with_reducible exact Grows.refl _) | (with_reducible refine Grows.alloc ?_ _) | (with_reducible refine Grows.drew ?_) | (with_reducible refine Grows.ext ?_ _ _)))).trans hg2)
        refine hK.out _ _ ?_ ?_
        · ((try dsimp only); first | exact hgx | exact hgq | exact hgx.trans (by repeat' (first | (with_reducible exact Grows.refl _) | (with_reducible refine Grows.alloc ?_ _) | (with_reducible refine Grows.drew ?_) | (with_reducible refine Grows.ext ?_ _ _))))
        clear hK K hHeld
        intro hHeld
        try simp only [Act.put, List.getElem_toArray, List.getElem_cons_succ, List.getElem_cons_zero, List.setIfInBounds_toArray, List.set_cons_zero, List.set_cons_succ]
        refine wpAnyH_take (i := 13) (v := ?v59_13) rfl (by kernel_rfl) (by kernel_rfl) (by kernel_rfl) (fun _ _ _ h => h) (Or.inl ⟨by kernel_rfl, ?y59_13⟩) (by assumption) ?r59_13
        case y59_13 => ((intro w hSw; obtain ⟨⟨a0, a1, a2, a3⟩, ⟨c0, c1, c2, c3⟩, hl0, hl1, hsz⟩ := HF.out w hSw; obtain ⟨e0, e1, e4, e3, hb⟩ := HE.out w hSw; clear hSw; go_simp); (try go_ints); (try with_reducible rfl))
        try simp only [Act.put, List.getElem_toArray, List.getElem_cons_succ, List.getElem_cons_zero, List.setIfInBounds_toArray, List.set_cons_zero, List.set_cons_succ]
        refine wpAnyH_take (i := 14) (v := ?v60_14) rfl (by kernel_rfl) (by kernel_rfl) (by kernel_rfl) (fun _ _ _ h => h) (Or.inl ⟨by kernel_rfl, ?y60_14⟩) (by assumption) ?r60_14
        case y60_14 => ((intro w hSw; obtain ⟨⟨a0, a1, a2, a3⟩, ⟨c0, c1, c2, c3⟩, hl0, hl1, hsz⟩ := HF.out w hSw; obtain ⟨e0, e1, e4, e3, hb⟩ := HE.out w hSw; clear hSw; go_simp); (try go_ints); (try with_reducible rfl))
        try simp only [Act.put, List.getElem_toArray, List.getElem_cons_succ, List.getElem_cons_zero, List.setIfInBounds_toArray, List.set_cons_zero, List.set_cons_succ]
        refine wpAnyH_take (i := 15) (v := ?v61_15) rfl (by kernel_rfl) (by kernel_rfl) (by kernel_rfl) (fun _ _ _ h => h) (Or.inl ⟨by kernel_rfl, ?y61_15⟩) (by assumption) ?r61_15
        case y61_15 => ((intro w hSw; obtain ⟨⟨a0, a1, a2, a3⟩, ⟨c0, c1, c2, c3⟩, hl0, hl1, hsz⟩ := HF.out w hSw; obtain ⟨e0, e1, e4, e3, hb⟩ := HE.out w hSw; clear hSw; go_simp); (try go_ints); (try with_reducible rfl))
        try simp only [Act.put, List.getElem_toArray, List.getElem_cons_succ, List.getElem_cons_zero, List.setIfInBounds_toArray, List.set_cons_zero, List.set_cons_succ]
        refine wpAnyH_take (i := 16) (v := ?v62_16) rfl (by kernel_rfl) (by kernel_rfl) (by kernel_rfl) (fun _ _ _ h => h) (Or.inl ⟨by kernel_rfl, ?y62_16⟩) (by assumption) ?r62_16
        case y62_16 => ((intro w hSw; obtain ⟨⟨a0, a1, a2, a3⟩, ⟨c0, c1, c2, c3⟩, hl0, hl1, hsz⟩ := HF.out w hSw; obtain ⟨e0, e1, e4, e3, hb⟩ := HE.out w hSw; clear hSw; go_simp); (try go_ints); (try with_reducible rfl))
        try simp only [Act.put, List.getElem_toArray, List.getElem_cons_succ, List.getElem_cons_zero, List.setIfInBounds_toArray, List.set_cons_zero, List.set_cons_succ]
        refine wpAnyH_take (i := 17) (v := ?v63_17) rfl (by kernel_rfl) (by kernel_rfl) (by kernel_rfl) (fun _ _ _ h => h) (Or.inl ⟨by kernel_rfl, ?y63_17⟩) (by assumption) ?r63_17
        case y63_17 => ((intro w hSw; obtain ⟨⟨a0, a1, a2, a3⟩, ⟨c0, c1, c2, c3⟩, hl0, hl1, hsz⟩ := HF.out w hSw; obtain ⟨e0, e1, e4, e3, hb⟩ := HE.out w hSw; clear hSw; go_simp); (try go_ints); (try with_reducible rfl))
        try simp only [Act.put, List.getElem_toArray, List.getElem_cons_succ, List.getElem_cons_zero, List.setIfInBounds_toArray, List.set_cons_zero, List.set_cons_succ]
        refine wpAnyH_done (by kernel_rfl) ?_ _
        clear hHeld
        go_wp2_with (first | (at_builtin; refine wpList_appO _ rfl (.tmp 62) (.tmp 63) 29 rfl B 41 i29 _ 5 40 Try.underlying29 hi29 hz29 hs29 hb29 rfl (by decide) _ _ (tilC (pT m)) (tilC q.1) hrx.t hv1 (tilC_one _) (by unfold maxLen; omega) (by omega) (by have := hgq.size; omega) ?_; intro v8 w8 row8 q1 q2 q3 q4; have hr8 := hrx.addT q1 q2 q3 q4; have hg8 : Grows W1 w8 := appended_grows hgq q2 (fun k e => by rw [hBe]; exact (q3 k e).1); have hv8 := hv2.kept q2 (fun k e => hap k (q3 k e).2.2)) | (at_builtin; refine wpList_appO _ rfl (.tmp 65) (.tmp 66) 30 rfl B 44 i30 _ 5 40 Try.underlying30 hi30 hz30 hs30 hb30 rfl (by decide) _ _ (rulC (pI m)) (rulC q.2) hr8.i hv8 (rulC_one _) (by unfold maxLen; omega) (by omega) (by have := hg8.size; omega) ?_; intro v9 w9 row9 q1 q2 q3 q4; have hr9 := hr8.addI q1 q2 q3 q4; have hg9 : Grows W1 w9 := appended_grows hg8 q2 (fun k e => by rw [hBe]; exact (q3 k e).1)))
        go_roundw
        case rel => exact ⟨m + 1, _, rfl, by omega, by go_num, by rw [HNX.out], by rw [HS.out.1, HS.out.2, HU.out, HQ.out, List.length_append, List.length_append, ← tilC_append, ← rulC_append]; exact hr9, hg9⟩
        case measure => simp [intOf]; omega
      · obtain rfl : oo = o + 1 := by omega
        have HU := Lib.hid (show pU (m + 1) = pU m ++ [⟨partR k ⟨row, col, rows, cols⟩ o 1, decide (k = 2)⟩] by rw [hus (by omega), show o + 1 - 1 = o by omega])
        have hgx := HG.out
        clear hro hg ho hof hsm hus
        go_upto_region 9 with fail
        refine wp_region_held_drew (S := fun w' => Grows W1 w') (by kernel_rfl) ?_ (fun hHeld => ?_)
        · (first | exact hgx | exact hgq | exact hgx.trans (by repeat' (first | (with_reducible exact Grows.refl _) | (with_reducible refine Grows.alloc ?_ _) | (with_reducible refine Grows.drew ?_) | (with_reducible refine Grows.ext ?_ _ _))))
        refine wpAnyH_take (i := 0) (v := ?v33_0) rfl (by kernel_rfl) (by kernel_rfl) (by kernel_rfl) (fun _ _ _ h => h) (Or.inl ⟨by kernel_rfl, ?y33_0⟩) (by assumption) ?r33_0
        case y33_0 => ((intro w hSw; obtain ⟨⟨a0, a1, a2, a3⟩, ⟨c0, c1, c2, c3⟩, hl0, hl1, hsz⟩ := HF.out w hSw; clear hSw; go_simp); (try go_ints); (try with_reducible rfl))
        try simp only [Act.put, List.getElem_toArray, List.getElem_cons_zero, List.setIfInBounds_toArray, List.set_cons_zero, List.set_cons_succ]
        refine wpAnyH_take (i := 1) (v := ?v34_1) rfl (by kernel_rfl) (by kernel_rfl) (by kernel_rfl) (fun _ _ _ h => h) (Or.inl ⟨by kernel_rfl, ?y34_1⟩) (by assumption) ?r34_1
        case y34_1 => ((intro w hSw; obtain ⟨⟨a0, a1, a2, a3⟩, ⟨c0, c1, c2, c3⟩, hl0, hl1, hsz⟩ := HF.out w hSw; clear hSw; go_simp); (try go_ints); (try with_reducible rfl))
        try simp only [Act.put, List.getElem_toArray, List.getElem_cons_succ, List.getElem_cons_zero, List.setIfInBounds_toArray, List.set_cons_zero, List.set_cons_succ]
        refine wpAnyH_take (i := 2) (v := ?v35_2) rfl (by kernel_rfl) (by kernel_rfl) (by kernel_rfl) (fun _ _ _ h => h) (Or.inl ⟨by kernel_rfl, ?y35_2⟩) (by assumption) ?r35_2
        case y35_2 => ((intro w hSw; obtain ⟨⟨a0, a1, a2, a3⟩, ⟨c0, c1, c2, c3⟩, hl0, hl1, hsz⟩ := HF.out w hSw; clear hSw; go_simp); (try go_ints); (try with_reducible rfl))
        try simp only [Act.put, List.getElem_toArray, List.getElem_cons_succ, List.getElem_cons_zero, List.setIfInBounds_toArray, List.set_cons_zero, List.set_cons_succ]
        refine wpAnyH_take (i := 3) (v := ?v36_3) rfl (by kernel_rfl) (by kernel_rfl) (by kernel_rfl) (fun _ _ _ h => h) (Or.inl ⟨by kernel_rfl, ?y36_3⟩) (by assumption) ?r36_3
        case y36_3 => ((intro w hSw; obtain ⟨⟨a0, a1, a2, a3⟩, ⟨c0, c1, c2, c3⟩, hl0, hl1, hsz⟩ := HF.out w hSw; clear hSw; go_simp); (try go_ints); (try with_reducible rfl))
        try simp only [Act.put, List.getElem_toArray, List.getElem_cons_succ, List.getElem_cons_zero, List.setIfInBounds_toArray, List.set_cons_zero, List.set_cons_succ]
        refine wpAnyH_take (i := 4) (v := ?v37_4) rfl (by kernel_rfl) (by kernel_rfl) (by kernel_rfl) (fun _ _ _ h => h) (Or.inl ⟨by kernel_rfl, ?y37_4⟩) (by assumption) ?r37_4
        case y37_4 => ((intro w hSw; obtain ⟨⟨a0, a1, a2, a3⟩, ⟨c0, c1, c2, c3⟩, hl0, hl1, hsz⟩ := HF.out w hSw; clear hSw; go_simp); (try go_ints); (try with_reducible rfl))
        try simp only [Act.put, List.getElem_toArray, List.getElem_cons_succ, List.getElem_cons_zero, List.setIfInBounds_toArray, List.set_cons_zero, List.set_cons_succ]
        refine wpAnyH_take (i := 6) (v := ?v38_6) rfl (by kernel_rfl) (by kernel_rfl) (by kernel_rfl) (fun _ _ _ h => h) (Or.inl ⟨by kernel_rfl, ?y38_6⟩) (by assumption) ?r38_6
        case y38_6 => ((intro w hSw; obtain ⟨⟨a0, a1, a2, a3⟩, ⟨c0, c1, c2, c3⟩, hl0, hl1, hsz⟩ := HF.out w hSw; clear hSw; go_simp); (try go_ints); (try with_reducible rfl))
        try simp only [Act.put, List.getElem_toArray, List.getElem_cons_succ, List.getElem_cons_zero, List.setIfInBounds_toArray, List.set_cons_zero, List.set_cons_succ]
        refine wpAnyH_take (i := 7) (v := ?v39_7) rfl (by kernel_rfl) (by kernel_rfl) (by kernel_rfl) (fun _ _ _ h => h) (Or.inl ⟨by kernel_rfl, ?y39_7⟩) (by assumption) ?r39_7
        case y39_7 => ((intro w hSw; obtain ⟨⟨a0, a1, a2, a3⟩, ⟨c0, c1, c2, c3⟩, hl0, hl1, hsz⟩ := HF.out w hSw; clear hSw; go_simp); (try go_ints); (try with_reducible rfl))
        try simp only [Act.put, List.getElem_toArray, List.getElem_cons_succ, List.getElem_cons_zero, List.setIfInBounds_toArray, List.set_cons_zero, List.set_cons_succ]
        refine wpAnyH_take (i := 8) (v := ?v40_8) rfl (by kernel_rfl) (by kernel_rfl) (by kernel_rfl) (fun _ _ _ h => h) (Or.inl ⟨by kernel_rfl, ?y40_8⟩) (by assumption) ?r40_8
        case y40_8 => ((intro w hSw; obtain ⟨⟨a0, a1, a2, a3⟩, ⟨c0, c1, c2, c3⟩, hl0, hl1, hsz⟩ := HF.out w hSw; clear hSw; go_simp); (try go_ints); (try with_reducible rfl))
        try simp only [Act.put, List.getElem_toArray, List.getElem_cons_succ, List.getElem_cons_zero, List.setIfInBounds_toArray, List.set_cons_zero, List.set_cons_succ]
        refine wpAnyH_ready (rs := [5]) (by kernel_rfl) (by simp) ?_
        refine AllReadyH.cons rfl (fun K hK => ?_) AllReadyH.nil
        simp only [List.getElem_toArray, List.getElem_cons_succ, List.getElem_cons_zero]
        go_simp
        (go_at_call 71; (with_reducible refine (part_any hk23 _ _ _ _ _ _ (by omega) (by omega) _).mono ?_); rintro e w1 ⟨rfl, h1, d1, rfl⟩)
        refine hK.out _ _ ?_ ?_
        · ((try dsimp only); first | exact hgx | exact hgq | exact hgx.trans (by repeat' (first | (with_reducible exact Grows.refl _) | (with_reducible refine Grows.alloc ?_ _) | (with_reducible refine Grows.drew ?_) | (with_reducible refine Grows.ext ?_ _ _))))
        clear hK K hHeld
        intro hHeld
        try simp only [Act.put, List.getElem_toArray, List.getElem_cons_succ, List.getElem_cons_zero, List.setIfInBounds_toArray, List.set_cons_zero, List.set_cons_succ]
        refine wpAnyH_take (i := 9) (v := ?v42_9) rfl (by kernel_rfl) (by kernel_rfl) (by kernel_rfl) (fun _ _ _ h => h) (Or.inl ⟨by kernel_rfl, ?y42_9⟩) (by assumption) ?r42_9
        case y42_9 => ((intro w hSw; obtain ⟨⟨a0, a1, a2, a3⟩, ⟨c0, c1, c2, c3⟩, hl0, hl1, hsz⟩ := HF.out w hSw; clear hSw; go_simp); (try go_ints); (try with_reducible rfl))
        try simp only [Act.put, List.getElem_toArray, List.getElem_cons_succ, List.getElem_cons_zero, List.setIfInBounds_toArray, List.set_cons_zero, List.set_cons_succ]
        refine wpAnyH_ready (rs := [10]) (by kernel_rfl) (by simp) ?_
        refine AllReadyH.cons rfl (fun K hK => ?_) AllReadyH.nil
        simp only [List.getElem_toArray, List.getElem_cons_succ, List.getElem_cons_zero]
        go_simp
        skip
        refine hK.out _ _ ?_ ?_
        · ((try dsimp only); first | exact hgx | exact hgq | exact hgx.trans (by repeat' (first | (with_reducible exact Grows.refl _) | (with_reducible refine Grows.alloc ?_ _) | (with_reducible refine Grows.drew ?_) | (with_reducible refine Grows.ext ?_ _ _))))
        clear hK K hHeld
        intro hHeld
        try simp only [Act.put, List.getElem_toArray, List.getElem_cons_succ, List.getElem_cons_zero, List.setIfInBounds_toArray, List.set_cons_zero, List.set_cons_succ]
        refine wpAnyH_ready (rs := [11]) (by kernel_rfl) (by simp) ?_
        refine AllReadyH.cons rfl (fun K hK => ?_) AllReadyH.nil
        simp only [List.getElem_toArray, List.getElem_cons_succ, List.getElem_cons_zero]
        rw [if_pos (by kernel_rfl)]
        (refine wp_appO _ (.tmp 32) (.tmp 42) 30 rfl B 44 i30 _ 5 40 Try.underlying30 hi30 hz30 hs30 hb30 rfl (by decide) _ 1 (rulC (pU m)) (rulC [⟨partR k ⟨row, col, rows, cols⟩ o 1, decide (k = 2)⟩]) (HRO.out.grows (by repeat' (first | (with_reducible exact Grows.refl _) | (with_reducible refine Grows.alloc ?_ _) | (with_reducible refine Grows.drew ?_) | (with_reducible refine Grows.ext ?_ _ _)))).u (by rw [rulC_single]; exact cells_new5 (by simp) rfl rfl) (rulC_one _) (by unfold maxLen; omega) (by omega) (by simp; omega) ?_; intro v6 w6 row6 q1 q2 q3 q4; have hru := Row3.addU (HRO.out.grows (by repeat' (first | (with_reducible exact Grows.refl _) | (with_reducible refine Grows.alloc ?_ _) | (with_reducible refine Grows.drew ?_) | (with_reducible refine Grows.ext ?_ _ _)))) q1 q2 q3 q4; have hgq : Grows W1 w6 := appended_grows (hgx.trans (by repeat' (first | (with_reducible exact Grows.refl _) | (with_reducible refine Grows.alloc ?_ _) | (with_reducible refine Grows.drew ?_) | (with_reducible refine Grows.ext ?_ _ _)))) q2 (fun k e => by rw [hBe]; exact (q3 k e).1))
        refine hK.out _ _ ?_ ?_
        · ((try dsimp only); first | exact hgx | exact hgq | exact hgx.trans (by repeat' (first | (with_reducible exact Grows.refl _) | (with_reducible refine Grows.alloc ?_ _) | (with_reducible refine Grows.drew ?_) | (with_reducible refine Grows.ext ?_ _ _))))
        clear hK K hHeld
        intro hHeld
        try simp only [Act.put, List.setIfInBounds_toArray, List.set_cons_zero, List.set_cons_succ]
        refine wpAnyH_take (i := 12) (v := ?v45_12) rfl (by kernel_rfl) (by kernel_rfl) (by kernel_rfl) (fun _ _ _ h => h) (Or.inl ⟨by kernel_rfl, ?y45_12⟩) (by assumption) ?r45_12
        case y45_12 => ((intro w hSw; obtain ⟨⟨a0, a1, a2, a3⟩, ⟨c0, c1, c2, c3⟩, hl0, hl1, hsz⟩ := HF.out w hSw; clear hSw; go_simp); (try go_ints); (try with_reducible rfl))
        try simp only [Act.put, List.getElem_toArray, List.getElem_cons_succ, List.getElem_cons_zero, List.setIfInBounds_toArray, List.set_cons_zero, List.set_cons_succ]
        refine wpAnyH_done (by kernel_rfl) ?_ _
        clear hHeld
        have HRX := Lib.hid hru
        clear hru HRO HG hgx q1 q2 q3 q4
        have hgx := hgq
        clear hgq
        go_upto_region 11 with fail
        refine wp_region_held_drew (S := fun w' => Grows W1 w') (by kernel_rfl) ?_ (fun hHeld => ?_)
        · (first | exact hgx | exact hgq | exact hgx.trans (by repeat' (first | (with_reducible exact Grows.refl _) | (with_reducible refine Grows.alloc ?_ _) | (with_reducible refine Grows.drew ?_) | (with_reducible refine Grows.ext ?_ _ _))))
        refine wpAnyH_take (i := 0) (v := ?v64_0) rfl (by kernel_rfl) (by kernel_rfl) (by kernel_rfl) (fun _ _ _ h => h) (Or.inl ⟨by kernel_rfl, ?y64_0⟩) (by assumption) ?r64_0
        case y64_0 => ((intro w hSw; obtain ⟨⟨a0, a1, a2, a3⟩, ⟨c0, c1, c2, c3⟩, hl0, hl1, hsz⟩ := HF.out w hSw; obtain ⟨e0, e1, e4, e3, hb⟩ := HE.out w hSw; clear hSw; go_simp); (try go_ints); (try with_reducible rfl))
        try simp only [Act.put, List.getElem_toArray, List.getElem_cons_zero, List.setIfInBounds_toArray, List.set_cons_zero, List.set_cons_succ]
        refine wpAnyH_take (i := 1) (v := ?v65_1) rfl (by kernel_rfl) (by kernel_rfl) (by kernel_rfl) (fun _ _ _ h => h) (Or.inl ⟨by kernel_rfl, ?y65_1⟩) (by assumption) ?r65_1
        case y65_1 => ((intro w hSw; obtain ⟨⟨a0, a1, a2, a3⟩, ⟨c0, c1, c2, c3⟩, hl0, hl1, hsz⟩ := HF.out w hSw; obtain ⟨e0, e1, e4, e3, hb⟩ := HE.out w hSw; clear hSw; go_simp); (try go_ints); (try with_reducible rfl))
        try simp only [Act.put, List.getElem_toArray, List.getElem_cons_succ, List.getElem_cons_zero, List.setIfInBounds_toArray, List.set_cons_zero, List.set_cons_succ]
        refine wpAnyH_take (i := 2) (v := ?v66_2) rfl (by kernel_rfl) (by kernel_rfl) (by kernel_rfl) (fun _ _ _ h => h) (Or.inl ⟨by kernel_rfl, ?y66_2⟩) (by assumption) ?r66_2
        case y66_2 => ((intro w hSw; obtain ⟨⟨a0, a1, a2, a3⟩, ⟨c0, c1, c2, c3⟩, hl0, hl1, hsz⟩ := HF.out w hSw; obtain ⟨e0, e1, e4, e3, hb⟩ := HE.out w hSw; clear hSw; go_simp); (try go_ints); (try with_reducible rfl))
        try simp only [Act.put, List.getElem_toArray, List.getElem_cons_succ, List.getElem_cons_zero, List.setIfInBounds_toArray, List.set_cons_zero, List.set_cons_succ]
        refine wpAnyH_take (i := 3) (v := ?v67_3) rfl (by kernel_rfl) (by kernel_rfl) (by kernel_rfl) (fun _ _ _ h => h) (Or.inl ⟨by kernel_rfl, ?y67_3⟩) (by assumption) ?r67_3
        case y67_3 => ((intro w hSw; obtain ⟨⟨a0, a1, a2, a3⟩, ⟨c0, c1, c2, c3⟩, hl0, hl1, hsz⟩ := HF.out w hSw; obtain ⟨e0, e1, e4, e3, hb⟩ := HE.out w hSw; clear hSw; go_simp); (try go_ints); (try with_reducible rfl))
        try simp only [Act.put, List.getElem_toArray, List.getElem_cons_succ, List.getElem_cons_zero, List.setIfInBounds_toArray, List.set_cons_zero, List.set_cons_succ]
        refine wpAnyH_take (i := 4) (v := ?v68_4) rfl (by kernel_rfl) (by kernel_rfl) (by kernel_rfl) (fun _ _ _ h => h) (Or.inl ⟨by kernel_rfl, ?y68_4⟩) (by assumption) ?r68_4
        case y68_4 => ((intro w hSw; obtain ⟨⟨a0, a1, a2, a3⟩, ⟨c0, c1, c2, c3⟩, hl0, hl1, hsz⟩ := HF.out w hSw; obtain ⟨e0, e1, e4, e3, hb⟩ := HE.out w hSw; clear hSw; go_simp); (try go_ints); (try with_reducible rfl))
        try simp only [Act.put, List.getElem_toArray, List.getElem_cons_succ, List.getElem_cons_zero, List.setIfInBounds_toArray, List.set_cons_zero, List.set_cons_succ]
        refine wpAnyH_take (i := 7) (v := ?v69_7) rfl (by kernel_rfl) (by kernel_rfl) (by kernel_rfl) (fun _ _ _ h => h) (Or.inl ⟨by kernel_rfl, ?y69_7⟩) (by assumption) ?r69_7
        case y69_7 => ((intro w hSw; obtain ⟨⟨a0, a1, a2, a3⟩, ⟨c0, c1, c2, c3⟩, hl0, hl1, hsz⟩ := HF.out w hSw; obtain ⟨e0, e1, e4, e3, hb⟩ := HE.out w hSw; clear hSw; go_simp); (try go_ints); (try with_reducible rfl))
        try simp only [Act.put, List.getElem_toArray, List.getElem_cons_succ, List.getElem_cons_zero, List.setIfInBounds_toArray, List.set_cons_zero, List.set_cons_succ]
        refine wpAnyH_take (i := 8) (v := ?v70_8) rfl (by kernel_rfl) (by kernel_rfl) (by kernel_rfl) (fun _ _ _ h => h) (Or.inl ⟨by kernel_rfl, ?y70_8⟩) (by assumption) ?r70_8
        case y70_8 => ((intro w hSw; obtain ⟨⟨a0, a1, a2, a3⟩, ⟨c0, c1, c2, c3⟩, hl0, hl1, hsz⟩ := HF.out w hSw; obtain ⟨e0, e1, e4, e3, hb⟩ := HE.out w hSw; clear hSw; go_simp); (try go_ints); (try with_reducible rfl))
        try simp only [Act.put, List.getElem_toArray, List.getElem_cons_succ, List.getElem_cons_zero, List.setIfInBounds_toArray, List.set_cons_zero, List.set_cons_succ]
        refine wpAnyH_take (i := 9) (v := ?v71_9) rfl (by kernel_rfl) (by kernel_rfl) (by kernel_rfl) (fun _ _ _ h => h) (Or.inl ⟨by kernel_rfl, ?y71_9⟩) (by assumption) ?r71_9
        case y71_9 => ((intro w hSw; obtain ⟨⟨a0, a1, a2, a3⟩, ⟨c0, c1, c2, c3⟩, hl0, hl1, hsz⟩ := HF.out w hSw; obtain ⟨e0, e1, e4, e3, hb⟩ := HE.out w hSw; clear hSw; go_simp); (try go_ints); (try with_reducible rfl))
        try simp only [Act.put, List.getElem_toArray, List.getElem_cons_succ, List.getElem_cons_zero, List.setIfInBounds_toArray, List.set_cons_zero, List.set_cons_succ]
        refine wpAnyH_take (i := 10) (v := ?v72_10) rfl (by kernel_rfl) (by kernel_rfl) (by kernel_rfl) (fun _ _ _ h => h) (Or.inl ⟨by kernel_rfl, ?y72_10⟩) (by assumption) ?r72_10
        case y72_10 => ((intro w hSw; obtain ⟨⟨a0, a1, a2, a3⟩, ⟨c0, c1, c2, c3⟩, hl0, hl1, hsz⟩ := HF.out w hSw; obtain ⟨e0, e1, e4, e3, hb⟩ := HE.out w hSw; clear hSw; go_simp); (try go_ints); (try with_reducible rfl))
        try simp only [Act.put, List.getElem_toArray, List.getElem_cons_succ, List.getElem_cons_zero, List.setIfInBounds_toArray, List.set_cons_zero, List.set_cons_succ]
        refine wpAnyH_take (i := 11) (v := ?v73_11) rfl (by kernel_rfl) (by kernel_rfl) (by kernel_rfl) (fun _ _ _ h => h) (Or.inl ⟨by kernel_rfl, ?y73_11⟩) (by assumption) ?r73_11
        case y73_11 => ((intro w hSw; obtain ⟨⟨a0, a1, a2, a3⟩, ⟨c0, c1, c2, c3⟩, hl0, hl1, hsz⟩ := HF.out w hSw; obtain ⟨e0, e1, e4, e3, hb⟩ := HE.out w hSw; clear hSw; go_simp); (try go_ints); (try with_reducible rfl))
        try simp only [Act.put, List.getElem_toArray, List.getElem_cons_succ, List.getElem_cons_zero, List.setIfInBounds_toArray, List.set_cons_zero, List.set_cons_succ]
        refine wpAnyH_ready (rs := [5]) (by kernel_rfl) (by simp) ?_
        refine AllReadyH.cons rfl (fun K hK => ?_) AllReadyH.nil
        simp only [List.getElem_toArray, List.getElem_cons_succ, List.getElem_cons_zero]
        go_simp
        (go_at_call 71; (with_reducible refine (part_any hk23 _ _ _ _ _ _ (by omega) (by omega) _).mono ?_); rintro e w1 ⟨rfl, h1, d1, rfl⟩)
        refine hK.out _ _ ?_ ?_
        · ((try dsimp only); first | exact hgx | exact hgq | exact hgx.trans (by repeat' (first | (with_reducible exact Grows.refl _) | (with_reducible refine Grows.alloc ?_ _) | (with_reducible refine Grows.drew ?_) | (with_reducible refine Grows.ext ?_ _ _))))
        clear hK K hHeld
        intro hHeld
        try simp only [Act.put, List.getElem_toArray, List.getElem_cons_succ, List.getElem_cons_zero, List.setIfInBounds_toArray, List.set_cons_zero, List.set_cons_succ]
        refine wpAnyH_take (i := 6) (v := ?v75_6) rfl (by kernel_rfl) (by kernel_rfl) (by kernel_rfl) (fun _ _ _ h => h) (Or.inl ⟨by kernel_rfl, ?y75_6⟩) (by assumption) ?r75_6
        case y75_6 => ((intro w hSw; obtain ⟨⟨a0, a1, a2, a3⟩, ⟨c0, c1, c2, c3⟩, hl0, hl1, hsz⟩ := HF.out w hSw; obtain ⟨e0, e1, e4, e3, hb⟩ := HE.out w hSw; clear hSw; go_simp); (try go_ints); (try with_reducible rfl))
        try simp only [Act.put, List.getElem_toArray, List.getElem_cons_succ, List.getElem_cons_zero, List.setIfInBounds_toArray, List.set_cons_zero, List.set_cons_succ]
        refine wpAnyH_ready (rs := [12]) (by kernel_rfl) (by simp) ?_
        refine AllReadyH.cons rfl (fun K hK => ?_) AllReadyH.nil
        simp only [List.getElem_toArray, List.getElem_cons_succ, List.getElem_cons_zero]
        go_simp
        (go_at_call 40; (with_reducible refine (HC.out _ (hgx.trans (by repeat' (first | (with_reducible exact Grows.refl _) | (with_reducible refine Grows.alloc ?_ _) | (with_reducible refine Grows.drew ?_) | (with_reducible refine Grows.ext ?_ _ _))))).mono ?_); rintro e w2 ⟨v1, v2, rfl, hv1, hv2, hnew, hg2⟩; rw [HQ2.out] at hv1 hv2; have hrx := HRX.out.grows (Grows.trans (by repeat' (first | (with_reducible exact Grows.refl _) | (with_reducible refine Grows.alloc ?_ _) | (with_reducible refine Grows.drew ?_) | (with_reducible refine Grows.ext ?_ _ _))) hg2); have hap : ∀ b, u4.ownBlock = some b → v2.ownBlock ≠ some b := (fun b e e2 => by have g1 := (HRX.out.t.lt b e).2; have g2 := hnew b e2; simp at g2; omega); have hgq := (hgx.trans (by repeat' (first | (with_reducible exact Grows.refl _) | (with_reducible refine Grows.alloc ?_ _) | (with_reducible refine Grows.drew ?_) | (with_reducible refine Grows.ext ?_ _ _)))).trans hg2)
        refine hK.out _ _ ?_ ?_
        · ((try dsimp only); first | exact hgx | exact hgq | exact hgx.trans (by repeat' (first | (with_reducible exact Grows.refl _) | (with_reducible refine Grows.alloc ?_ _) | (with_reducible refine Grows.drew ?_) | (with_reducible refine Grows.ext ?_ _ _))))
        clear hK K hHeld
        intro hHeld
        try simp only [Act.put, List.getElem_toArray, List.getElem_cons_succ, List.getElem_cons_zero, List.setIfInBounds_toArray, List.set_cons_zero, List.set_cons_succ]
        refine wpAnyH_take (i := 13) (v := ?v77_13) rfl (by kernel_rfl) (by kernel_rfl) (by kernel_rfl) (fun _ _ _ h => h) (Or.inl ⟨by kernel_rfl, ?y77_13⟩) (by assumption) ?r77_13
        case y77_13 => ((intro w hSw; obtain ⟨⟨a0, a1, a2, a3⟩, ⟨c0, c1, c2, c3⟩, hl0, hl1, hsz⟩ := HF.out w hSw; obtain ⟨e0, e1, e4, e3, hb⟩ := HE.out w hSw; clear hSw; go_simp); (try go_ints); (try with_reducible rfl))
        try simp only [Act.put, List.getElem_toArray, List.getElem_cons_succ, List.getElem_cons_zero, List.setIfInBounds_toArray, List.set_cons_zero, List.set_cons_succ]
        refine wpAnyH_take (i := 14) (v := ?v78_14) rfl (by kernel_rfl) (by kernel_rfl) (by kernel_rfl) (fun _ _ _ h => h) (Or.inl ⟨by kernel_rfl, ?y78_14⟩) (by assumption) ?r78_14
        case y78_14 => ((intro w hSw; obtain ⟨⟨a0, a1, a2, a3⟩, ⟨c0, c1, c2, c3⟩, hl0, hl1, hsz⟩ := HF.out w hSw; obtain ⟨e0, e1, e4, e3, hb⟩ := HE.out w hSw; clear hSw; go_simp); (try go_ints); (try with_reducible rfl))
        try simp only [Act.put, List.getElem_toArray, List.getElem_cons_succ, List.getElem_cons_zero, List.setIfInBounds_toArray, List.set_cons_zero, List.set_cons_succ]
        refine wpAnyH_take (i := 15) (v := ?v79_15) rfl (by kernel_rfl) (by kernel_rfl) (by kernel_rfl) (fun _ _ _ h => h) (Or.inl ⟨by kernel_rfl, ?y79_15⟩) (by assumption) ?r79_15
        case y79_15 => ((intro w hSw; obtain ⟨⟨a0, a1, a2, a3⟩, ⟨c0, c1, c2, c3⟩, hl0, hl1, hsz⟩ := HF.out w hSw; obtain ⟨e0, e1, e4, e3, hb⟩ := HE.out w hSw; clear hSw; go_simp); (try go_ints); (try with_reducible rfl))
        try simp only [Act.put, List.getElem_toArray, List.getElem_cons_succ, List.getElem_cons_zero, List.setIfInBounds_toArray, List.set_cons_zero, List.set_cons_succ]
        refine wpAnyH_take (i := 16) (v := ?v80_16) rfl (by kernel_rfl) (by kernel_rfl) (by kernel_rfl) (fun _ _ _ h => h) (Or.inl ⟨by kernel_rfl, ?y80_16⟩) (by assumption) ?r80_16
        case y80_16 => ((intro w hSw; obtain ⟨⟨a0, a1, a2, a3⟩, ⟨c0, c1, c2, c3⟩, hl0, hl1, hsz⟩ := HF.out w hSw; obtain ⟨e0, e1, e4, e3, hb⟩ := HE.out w hSw; clear hSw; go_simp); (try go_ints); (try with_reducible rfl))
        try simp only [Act.put, List.getElem_toArray, List.getElem_cons_succ, List.getElem_cons_zero, List.setIfInBounds_toArray, List.set_cons_zero, List.set_cons_succ]
        refine wpAnyH_take (i := 17) (v := ?v81_17) rfl (by kernel_rfl) (by kernel_rfl) (by kernel_rfl) (fun _ _ _ h => h) (Or.inl ⟨by kernel_rfl, ?y81_17⟩) (by assumption) ?r81_17
        case y81_17 => ((intro w hSw; obtain ⟨⟨a0, a1, a2, a3⟩, ⟨c0, c1, c2, c3⟩, hl0, hl1, hsz⟩ := HF.out w hSw; obtain ⟨e0, e1, e4, e3, hb⟩ := HE.out w hSw; clear hSw; go_simp); (try go_ints); (try with_reducible rfl))
        try simp only [Act.put, List.getElem_toArray, List.getElem_cons_succ, List.getElem_cons_zero, List.setIfInBounds_toArray, List.set_cons_zero, List.set_cons_succ]
        refine wpAnyH_done (by kernel_rfl) ?_ _
        clear hHeld
        go_wp2_with (first | (at_builtin; refine wpList_appO _ rfl (.tmp 62) (.tmp 63) 29 rfl B 41 i29 _ 5 40 Try.underlying29 hi29 hz29 hs29 hb29 rfl (by decide) _ _ (tilC (pT m)) (tilC q.1) hrx.t hv1 (tilC_one _) (by unfold maxLen; omega) (by omega) (by have := hgq.size; omega) ?_; intro v8 w8 row8 q1 q2 q3 q4; have hr8 := hrx.addT q1 q2 q3 q4; have hg8 : Grows W1 w8 := appended_grows hgq q2 (fun k e => by rw [hBe]; exact (q3 k e).1); have hv8 := hv2.kept q2 (fun k e => hap k (q3 k e).2.2)) | (at_builtin; refine wpList_appO _ rfl (.tmp 65) (.tmp 66) 30 rfl B 44 i30 _ 5 40 Try.underlying30 hi30 hz30 hs30 hb30 rfl (by decide) _ _ (rulC (pI m)) (rulC q.2) hr8.i hv8 (rulC_one _) (by unfold maxLen; omega) (by omega) (by have := hg8.size; omega) ?_; intro v9 w9 row9 q1 q2 q3 q4; have hr9 := hr8.addI q1 q2 q3 q4; have hg9 : Grows W1 w9 := appended_grows hg8 q2 (fun k e => by rw [hBe]; exact (q3 k e).1)))
        go_roundw
        case rel => exact ⟨m + 1, _, rfl, by omega, by go_num, by rw [HNX.out], by rw [HS.out.1, HS.out.2, HU.out, HQ.out, List.length_append, List.length_append, List.length_append, ← tilC_append, ← rulC_append, ← rulC_append]; exact hr9, hg9⟩
        case measure => simp [intOf]; omega
    · have e : m = ks.length := by omega
      subst e
      obtain ⟨⟨a0, a1, a2, a3⟩, ⟨c0, c1, c2, c3⟩, hl0, hl1, hsz⟩ := HF.out _ hg
      clear hro hg
      go_wp2_with (at_builtin; refine wpList_appO _ rfl (.tmp 73) (.tmp 74) 30 rfl B 44 i30 _ 5 40 Try.underlying30 hi30 hz30 hs30 hb30 rfl (by decide) _ _ (rulC (pU ks.length)) (rulC (pI ks.length)) HRO.out.u (ownsRow_cells HRO.out.i) (rulC_one _) (by unfold maxLen; omega) (by omega) (by omega) ?_; intro v8 w8 row8 q1 q2 q3 q4; have hr8 := HRO.out.addU q1 q2 q3 q4; have hg8 : Grows W1 w8 := appended_grows HG.out q2 (fun k e => by rw [hBe]; exact (q3 k e).1))
      go_returns
      refine ⟨_, _, rfl, ?_, ?_, ?_, (HG0.out.trans HG1.out).trans hg8⟩
      · exact ownsRow_cells hr8.t
      · have := ownsRow_cells hr8.u
        rw [rulC_append] at this
        rw [List.length_append]
        exact this
      · intro b' e
        have h1 := (hr8.u.lt b' e).1
        have h2 := (HG0.out.trans HG1.out).size
        omega
end Go.Proofs.Ytbobpgegkmcapaa

namespace Go.Proofs.Ytbobpgegkmcapaa
open Go.RowKit

theorem tile_any {S : Nat → Prop} (L : Lay) : okTree L = true → (panesL L).length ≤ 1000 → ∀ (row col rows cols : Int), (0 ≤ row ∧ 0 ≤ col) → (cols ≤ 10000 ∧ col + cols ≤ 30000) → (rows ≤ 10000 ∧ row + rows ≤ 30000) → fitsR L ⟨row, col, rows, cols⟩ → ∀ (vk vw : Value) (w : World), LayAt S w L vk vw → Calls Try.prog 40 #[.agg #[.int .i64 row, .int .i64 col, .int .i64 rows, .int .i64 cols], .agg #[.int .i64 L.kind, .int .i64 L.pane, vk, vw]] w (fun e w' => TileRes w w' (tileL L ⟨row, col, rows, cols⟩) e) := by
  induction L using Lay.ind with | h k p ks ws ih => ?_
  intro hok hn row col rows cols h0 hc hr hf vk vw w h
  by_cases hk : k = 1
  · subst hk
    obtain ⟨ka, kc, e1, -⟩ := h.kids.shape rfl
    obtain ⟨wa, wc, e2, -⟩ := h.ints.shape rfl
    subst e1 e2
    have e : tileL (.mk 1 p ks ws) ⟨row, col, rows, cols⟩ = ([⟨p, ⟨row, col, rows, cols⟩⟩], []) := by
      rw [tileL_eq]
      exact if_pos rfl
    rw [e]
    exact tile_leaf p row col rows cols ka wa _ kc _ wc w
  · exact tile_split k p ks ws hk hok hn row col rows cols h0 hc hr hf vk vw w h ih
/-- What Tile of the program returns. -/
def tileP (L : Lay) (r : Rct) : (List Til × List Rul) × Int :=
  if rightL L = false then (([], []), 440)
  else if r.row < 0 ∨ r.col < 0 ∨ 9999 < r.row ∨ 9999 < r.col ∨ 9999 < r.rows ∨ 9999 < r.cols then (([], []), 2)
  else if r.cols < colsL L ∨ r.rows < rowsL L then (([], []), 442)
  else (tileL L r, 0)
theorem max4_run (a b c d : Int) : ∃ M : Int, (∀ w : World, (Builtin.max_ #[3, 3, 3, 3] 3 #[.int .i64 a, .int .i64 b, .int .i64 c, .int .i64 d]).run Try.prog w = .ok (.int .i64 M) w) ∧ a ≤ M ∧ b ≤ M ∧ c ≤ M ∧ d ≤ M ∧ (M = a ∨ M = b ∨ M = c ∨ M = d) := by
  refine ⟨max (max (max a b) c) d, fun w => ?_, by omega, by omega, by omega, by omega, by omega⟩
  simp only [max_eq_if]
  simp [go_sem, Builtin.max_, Builtin.max2]
/-- What Tile returns. -/
def TileRes3 (w w' : World) (q : (List Til × List Rul) × Int) (e : Ending) : Prop := ∃ v1 v2, e = .returned (.tuple #[v1, v2, .int .i64 q.2]) ∧ CellsAt 5 w' v1 q.1.1.length (tilC q.1.1) ∧ CellsAt 5 w' v2 q.1.2.length (rulC q.1.2) ∧ Grows w w'
theorem cells_none (w : World) : CellsAt 5 w (.slice none 0 0) 0 [] := ⟨rfl, none, 0, rfl, Nat.le_refl _, fun h => absurd rfl h⟩
theorem tileP_no {S : Nat → Prop} (L : Lay) (row col rows cols : Int) (hr : rightL L = false) (vk vw : Value) (w : World) (h : LayAt S w L vk vw) : Calls Try.prog 10 #[.agg #[.int .i64 L.kind, .int .i64 L.pane, vk, vw], .agg #[.int .i64 row, .int .i64 col, .int .i64 rows, .int .i64 cols]] w (fun e w' => TileRes3 w w' (([], []), 440) e) := by
  have hc := chk_no hr
  obtain ⟨ka, kc, e1, -⟩ := h.kids.shape rfl
  obtain ⟨wa, wc, e2, -⟩ := h.ints.shape rfl
  subst e1 e2
  have HC := Lib.hid fun W (g : Grows w W) => checked (h.grows g)
  rw [hc] at HC
  clear h hc hr
  generalize L.kids.length = kn at *
  generalize L.ws.length = wn at *
  go_enter Try.func10, Try.ntmps10
  go_wp2_with (first | (go_at_call 16; (with_reducible refine (HC.out _ (by repeat' (first | (with_reducible exact Grows.refl _) | (with_reducible refine Grows.alloc ?_ _) | (with_reducible refine Grows.drew ?_) | (with_reducible refine Grows.ext ?_ _ _)))).mono ?_); rintro e w' ⟨rfl, h57, d57, rfl⟩))
  go_returns
  exact ⟨_, _, rfl, cells_none _, cells_none _, (by repeat' (first | (with_reducible exact Grows.refl _) | (with_reducible refine Grows.alloc ?_ _) | (with_reducible refine Grows.drew ?_) | (with_reducible refine Grows.ext ?_ _ _)))⟩
theorem tileP_bad1 {S : Nat → Prop} (L : Lay) (row col rows cols : Int) (hr : rightL L = true) (h1 : row < 0) (vk vw : Value) (w : World) (h : LayAt S w L vk vw) : Calls Try.prog 10 #[.agg #[.int .i64 L.kind, .int .i64 L.pane, vk, vw], .agg #[.int .i64 row, .int .i64 col, .int .i64 rows, .int .i64 cols]] w (fun e w' => TileRes3 w w' (([], []), 2) e) := by
  have hc := chk_yes hr
  obtain ⟨ka, kc, e1, -⟩ := h.kids.shape rfl
  obtain ⟨wa, wc, e2, -⟩ := h.ints.shape rfl
  subst e1 e2
  have HC := Lib.hid fun W (g : Grows w W) => checked (h.grows g)
  rw [hc] at HC
  clear h hc hr
  generalize L.kids.length = kn at *
  generalize L.ws.length = wn at *
  go_enter Try.func10, Try.ntmps10
  go_wp2_with (first | (go_at_call 16; (with_reducible refine (HC.out _ (by repeat' (first | (with_reducible exact Grows.refl _) | (with_reducible refine Grows.alloc ?_ _) | (with_reducible refine Grows.drew ?_) | (with_reducible refine Grows.ext ?_ _ _)))).mono ?_); rintro e w' ⟨rfl, h57, d57, rfl⟩))
  go_returns
  exact ⟨_, _, rfl, cells_none _, cells_none _, (by repeat' (first | (with_reducible exact Grows.refl _) | (with_reducible refine Grows.alloc ?_ _) | (with_reducible refine Grows.drew ?_) | (with_reducible refine Grows.ext ?_ _ _)))⟩
theorem tileP_bad2 {S : Nat → Prop} (L : Lay) (row col rows cols : Int) (hr : rightL L = true) (h1 : ¬ row < 0) (h2 : col < 0) (vk vw : Value) (w : World) (h : LayAt S w L vk vw) : Calls Try.prog 10 #[.agg #[.int .i64 L.kind, .int .i64 L.pane, vk, vw], .agg #[.int .i64 row, .int .i64 col, .int .i64 rows, .int .i64 cols]] w (fun e w' => TileRes3 w w' (([], []), 2) e) := by
  have hc := chk_yes hr
  obtain ⟨ka, kc, e1, -⟩ := h.kids.shape rfl
  obtain ⟨wa, wc, e2, -⟩ := h.ints.shape rfl
  subst e1 e2
  have HC := Lib.hid fun W (g : Grows w W) => checked (h.grows g)
  rw [hc] at HC
  clear h hc hr
  generalize L.kids.length = kn at *
  generalize L.ws.length = wn at *
  go_enter Try.func10, Try.ntmps10
  go_wp2_with (first | (go_at_call 16; (with_reducible refine (HC.out _ (by repeat' (first | (with_reducible exact Grows.refl _) | (with_reducible refine Grows.alloc ?_ _) | (with_reducible refine Grows.drew ?_) | (with_reducible refine Grows.ext ?_ _ _)))).mono ?_); rintro e w' ⟨rfl, h57, d57, rfl⟩))
  go_returns
  exact ⟨_, _, rfl, cells_none _, cells_none _, (by repeat' (first | (with_reducible exact Grows.refl _) | (with_reducible refine Grows.alloc ?_ _) | (with_reducible refine Grows.drew ?_) | (with_reducible refine Grows.ext ?_ _ _)))⟩
theorem tileP_bad3 {S : Nat → Prop} (L : Lay) (row col rows cols : Int) (hr : rightL L = true) (h1 : ¬ row < 0) (h2 : ¬ col < 0) (h3 : 9999 < row ∨ 9999 < col ∨ 9999 < rows ∨ 9999 < cols) (vk vw : Value) (w : World) (h : LayAt S w L vk vw) : Calls Try.prog 10 #[.agg #[.int .i64 L.kind, .int .i64 L.pane, vk, vw], .agg #[.int .i64 row, .int .i64 col, .int .i64 rows, .int .i64 cols]] w (fun e w' => TileRes3 w w' (([], []), 2) e) := by
  have hc := chk_yes hr
  obtain ⟨ka, kc, e1, -⟩ := h.kids.shape rfl
  obtain ⟨wa, wc, e2, -⟩ := h.ints.shape rfl
  subst e1 e2
  have HC := Lib.hid fun W (g : Grows w W) => checked (h.grows g)
  rw [hc] at HC
  clear h hc hr
  generalize L.kids.length = kn at *
  generalize L.ws.length = wn at *
  obtain ⟨M, hM, m1, m2, m3, m4, -⟩ := max4_run row col rows cols
  have hM2 : 9999 < M := by omega
  clear h3 m1 m2 m3 m4
  go_enter Try.func10, Try.ntmps10
  go_wp2_with (first | (go_at_call 16; (with_reducible refine (HC.out _ (by repeat' (first | (with_reducible exact Grows.refl _) | (with_reducible refine Grows.alloc ?_ _) | (with_reducible refine Grows.drew ?_) | (with_reducible refine Grows.ext ?_ _ _)))).mono ?_); rintro e w' ⟨rfl, h57, d57, rfl⟩))
  go_returns
  exact ⟨_, _, rfl, cells_none _, cells_none _, (by repeat' (first | (with_reducible exact Grows.refl _) | (with_reducible refine Grows.alloc ?_ _) | (with_reducible refine Grows.drew ?_) | (with_reducible refine Grows.ext ?_ _ _)))⟩
theorem tileP_small1 {S : Nat → Prop} (L : Lay) (row col rows cols : Int) (hr : rightL L = true) (h1 : ¬ row < 0) (h2 : ¬ col < 0) (h3 : row ≤ 9999 ∧ col ≤ 9999 ∧ rows ≤ 9999 ∧ cols ≤ 9999) (h4 : cols < colsL L) (vk vw : Value) (w : World) (h : LayAt S w L vk vw) : Calls Try.prog 10 #[.agg #[.int .i64 L.kind, .int .i64 L.pane, vk, vw], .agg #[.int .i64 row, .int .i64 col, .int .i64 rows, .int .i64 cols]] w (fun e w' => TileRes3 w w' (([], []), 442) e) := by
  obtain ⟨hok, hn, -⟩ := right_ok hr
  have hc := chk_yes hr
  obtain ⟨ka, kc, e1, -⟩ := h.kids.shape rfl
  obtain ⟨wa, wc, e2, -⟩ := h.ints.shape rfl
  subst e1 e2
  have HC := Lib.hid fun W (g : Grows w W) => checked (h.grows g)
  rw [hc] at HC
  have HM := Lib.hid fun W (g : Grows w W) => minimum_any L hok (by omega) _ _ W (h.grows g)
  clear h hok hn hc hr
  generalize L.kids.length = kn at *
  generalize L.ws.length = wn at *
  obtain ⟨M, hM, -, -, -, -, m5⟩ := max4_run row col rows cols
  have hM2 : ¬ 9999 < M := by omega
  clear m5
  generalize colsL L = mc at *
  generalize rowsL L = mr at *
  go_enter Try.func10, Try.ntmps10
  go_wp2_with (first | (go_at_call 16; (with_reducible refine (HC.out _ (by repeat' (first | (with_reducible exact Grows.refl _) | (with_reducible refine Grows.alloc ?_ _) | (with_reducible refine Grows.drew ?_) | (with_reducible refine Grows.ext ?_ _ _)))).mono ?_); rintro e w' ⟨rfl, h57, d57, rfl⟩) | (go_at_call 39; (with_reducible refine (HM.out _ (by repeat' (first | (with_reducible exact Grows.refl _) | (with_reducible refine Grows.alloc ?_ _) | (with_reducible refine Grows.drew ?_) | (with_reducible refine Grows.ext ?_ _ _)))).mono ?_); rintro e w' ⟨rfl, h58, d58, rfl⟩))
  all_goals (try (exfalso; omega))
  go_returns
  exact ⟨_, _, rfl, cells_none _, cells_none _, (by repeat' (first | (with_reducible exact Grows.refl _) | (with_reducible refine Grows.alloc ?_ _) | (with_reducible refine Grows.drew ?_) | (with_reducible refine Grows.ext ?_ _ _)))⟩
theorem tileP_small2 {S : Nat → Prop} (L : Lay) (row col rows cols : Int) (hr : rightL L = true) (h1 : ¬ row < 0) (h2 : ¬ col < 0) (h3 : row ≤ 9999 ∧ col ≤ 9999 ∧ rows ≤ 9999 ∧ cols ≤ 9999) (h4 : ¬ cols < colsL L) (h5 : rows < rowsL L) (vk vw : Value) (w : World) (h : LayAt S w L vk vw) : Calls Try.prog 10 #[.agg #[.int .i64 L.kind, .int .i64 L.pane, vk, vw], .agg #[.int .i64 row, .int .i64 col, .int .i64 rows, .int .i64 cols]] w (fun e w' => TileRes3 w w' (([], []), 442) e) := by
  obtain ⟨hok, hn, -⟩ := right_ok hr
  have hc := chk_yes hr
  obtain ⟨ka, kc, e1, -⟩ := h.kids.shape rfl
  obtain ⟨wa, wc, e2, -⟩ := h.ints.shape rfl
  subst e1 e2
  have HC := Lib.hid fun W (g : Grows w W) => checked (h.grows g)
  rw [hc] at HC
  have HM := Lib.hid fun W (g : Grows w W) => minimum_any L hok (by omega) _ _ W (h.grows g)
  clear h hok hn hc hr
  generalize L.kids.length = kn at *
  generalize L.ws.length = wn at *
  obtain ⟨M, hM, -, -, -, -, m5⟩ := max4_run row col rows cols
  have hM2 : ¬ 9999 < M := by omega
  clear m5
  generalize colsL L = mc at *
  generalize rowsL L = mr at *
  go_enter Try.func10, Try.ntmps10
  go_wp2_with (first | (go_at_call 16; (with_reducible refine (HC.out _ (by repeat' (first | (with_reducible exact Grows.refl _) | (with_reducible refine Grows.alloc ?_ _) | (with_reducible refine Grows.drew ?_) | (with_reducible refine Grows.ext ?_ _ _)))).mono ?_); rintro e w' ⟨rfl, h57, d57, rfl⟩) | (go_at_call 39; (with_reducible refine (HM.out _ (by repeat' (first | (with_reducible exact Grows.refl _) | (with_reducible refine Grows.alloc ?_ _) | (with_reducible refine Grows.drew ?_) | (with_reducible refine Grows.ext ?_ _ _)))).mono ?_); rintro e w' ⟨rfl, h58, d58, rfl⟩))
  all_goals (try (exfalso; omega))
  go_returns
  exact ⟨_, _, rfl, cells_none _, cells_none _, (by repeat' (first | (with_reducible exact Grows.refl _) | (with_reducible refine Grows.alloc ?_ _) | (with_reducible refine Grows.drew ?_) | (with_reducible refine Grows.ext ?_ _ _)))⟩
theorem tileP_ok {S : Nat → Prop} (L : Lay) (row col rows cols : Int) (hr : rightL L = true) (h1 : ¬ row < 0) (h2 : ¬ col < 0) (h3 : row ≤ 9999 ∧ col ≤ 9999 ∧ rows ≤ 9999 ∧ cols ≤ 9999) (h4 : ¬ cols < colsL L) (h5 : ¬ rows < rowsL L) (vk vw : Value) (w : World) (h : LayAt S w L vk vw) : Calls Try.prog 10 #[.agg #[.int .i64 L.kind, .int .i64 L.pane, vk, vw], .agg #[.int .i64 row, .int .i64 col, .int .i64 rows, .int .i64 cols]] w (fun e w' => TileRes3 w w' (tileL L ⟨row, col, rows, cols⟩, 0) e) := by
  obtain ⟨hok, hn, -⟩ := right_ok hr
  have hc := chk_yes hr
  obtain ⟨ka, kc, e1, -⟩ := h.kids.shape rfl
  obtain ⟨wa, wc, e2, -⟩ := h.ints.shape rfl
  subst e1 e2
  have HC := Lib.hid fun W (g : Grows w W) => checked (h.grows g)
  rw [hc] at HC
  have HM := Lib.hid fun W (g : Grows w W) => minimum_any L hok (by omega) _ _ W (h.grows g)
  have HT := Lib.hid fun W (g : Grows w W) => tile_any L hok (by omega) row col rows cols (by omega) (by omega) (by omega) ⟨Int.not_lt.1 h4, Int.not_lt.1 h5⟩ _ _ W (h.grows g)
  clear h hok hn hc hr
  generalize L.kids.length = kn at *
  generalize L.ws.length = wn at *
  obtain ⟨M, hM, -, -, -, -, m5⟩ := max4_run row col rows cols
  have hM2 : ¬ 9999 < M := by omega
  clear m5
  generalize colsL L = mc at *
  generalize rowsL L = mr at *
  go_enter Try.func10, Try.ntmps10
  go_wp2_with (first | (go_at_call 16; (with_reducible refine (HC.out _ (by repeat' (first | (with_reducible exact Grows.refl _) | (with_reducible refine Grows.alloc ?_ _) | (with_reducible refine Grows.drew ?_) | (with_reducible refine Grows.ext ?_ _ _)))).mono ?_); rintro e w' ⟨rfl, h57, d57, rfl⟩) | (go_at_call 39; (with_reducible refine (HM.out _ (by repeat' (first | (with_reducible exact Grows.refl _) | (with_reducible refine Grows.alloc ?_ _) | (with_reducible refine Grows.drew ?_) | (with_reducible refine Grows.ext ?_ _ _)))).mono ?_); rintro e w' ⟨rfl, h58, d58, rfl⟩) | (go_at_call 40; (with_reducible refine (HT.out _ (by repeat' (first | (with_reducible exact Grows.refl _) | (with_reducible refine Grows.alloc ?_ _) | (with_reducible refine Grows.drew ?_) | (with_reducible refine Grows.ext ?_ _ _)))).mono ?_); rintro e w2 ⟨v1, v2, rfl, hv1, hv2, -, hg2⟩))
  all_goals (try (exfalso; omega))
  go_returns
  exact ⟨_, _, rfl, hv1, hv2, (by repeat' (first | (with_reducible exact Grows.refl _) | (with_reducible refine Grows.trans ?_ hg2) | (with_reducible refine Grows.alloc ?_ _) | (with_reducible refine Grows.drew ?_) | (with_reducible refine Grows.ext ?_ _ _)))⟩
theorem tileP_any {S : Nat → Prop} (L : Lay) (row col rows cols : Int) (vk vw : Value) (w : World) (h : LayAt S w L vk vw) : Calls Try.prog 10 #[.agg #[.int .i64 L.kind, .int .i64 L.pane, vk, vw], .agg #[.int .i64 row, .int .i64 col, .int .i64 rows, .int .i64 cols]] w (fun e w' => TileRes3 w w' (tileP L ⟨row, col, rows, cols⟩) e) := by
  unfold tileP
  by_cases hr : rightL L = false
  · rw [if_pos hr]
    exact tileP_no L row col rows cols hr vk vw w h
  · rw [if_neg hr]
    have hr' : rightL L = true := by simpa using hr
    dsimp only
    by_cases h1 : row < 0
    · rw [if_pos (.inl h1)]
      exact tileP_bad1 L row col rows cols hr' h1 vk vw w h
    · by_cases h2 : col < 0
      · rw [if_pos (.inr (.inl h2))]
        exact tileP_bad2 L row col rows cols hr' h1 h2 vk vw w h
      · by_cases h3 : 9999 < row ∨ 9999 < col ∨ 9999 < rows ∨ 9999 < cols
        · rw [if_pos (.inr (.inr h3))]
          exact tileP_bad3 L row col rows cols hr' h1 h2 h3 vk vw w h
        · rw [if_neg (by omega)]
          by_cases h4 : cols < colsL L
          · rw [if_pos (.inl h4)]
            exact tileP_small1 L row col rows cols hr' h1 h2 (by omega) h4 vk vw w h
          · by_cases h5 : rows < rowsL L
            · rw [if_pos (.inr h5)]
              exact tileP_small2 L row col rows cols hr' h1 h2 (by omega) h4 h5 vk vw w h
            · rw [if_neg (by omega)]
              exact tileP_ok L row col rows cols hr' h1 h2 (by omega) h4 h5 vk vw w h
end Go.Proofs.Ytbobpgegkmcapaa

