/-
  Layouts: tiles and dividers lie in the rectangle, each wide enough; whose tiles they are; how often a cell is covered. No program in sight. The counters of LayoutCovers. The counting closure, walked. No counter differs from one.
-/
import Derived.Test.YtbobpgegkmcapaaM1
import Derived.Test.YtbobpgegkmcapaaRows
import Derived.Test.YtbobpgegkmcapaaM2
import Derived.WalkKit
import Derived.WalkSpells
import Derived.WalkLawsBesides
import Derived.Handy
import Derived.Laws.Rows
import Derived.Great.BuildSlice
import Derived.Deep.Heap
import Derived.IntWalk
import Derived.Lib.Hide
import Derived.Outline
import Derived.Deep.Light
import Derived.Deep.LoopGhost
import Derived.BigGuardPart
import Derived.BigQuiet
import Derived.Deep.QuietTactic
import Derived.Deep.RegionHeld3
import Derived.Deep.DeepCutAuto
import Derived.Test.YtbobpgegkmcapaaM14
import Derived.Deep.CutBlock
import Derived.OwnWalk
import Derived.Maps.AppendAt
namespace Go.Proofs.Ytbobpgegkmcapaa
theorem tile_inside : ∀ L : Lay, okTree L = true → ∀ r, fitsR L r → (∀ t ∈ (tileL L r).1, insideR t.at_ r ∧ 2 ≤ t.at_.cols ∧ 1 ≤ t.at_.rows) ∧ (∀ u ∈ (tileL L r).2, insideR u.at_ r ∧ 1 ≤ u.at_.cols ∧ 1 ≤ u.at_.rows ∧ (u.vert = true → u.at_.cols = 1) ∧ (u.vert = false → u.at_.rows = 1)) := by
  intro L
  induction L using Lay.ind with | h k p ks ws ih => ?_
  intro hok r hf
  have hmb := min_bounds _ hok
  have hfc := hf.1
  have hfr := hf.2
  rw [tileL_eq]
  by_cases hk : k = 1
  · have e : (Lay.mk k p ks ws).kind = 1 := hk
    rw [if_pos e]
    refine ⟨fun t ht => ?_, fun u hu => by cases hu⟩
    rw [List.mem_singleton.1 ht]
    exact ⟨⟨by dsimp only; omega, by dsimp only; omega, by dsimp only; omega, by dsimp only; omega⟩, by dsimp only; omega, by dsimp only; omega⟩
  · have e : ¬ (Lay.mk k p ks ws).kind = 1 := hk
    rw [if_neg e]
    obtain ⟨hk2, -, -, -, -, -, hko⟩ := split_facts hok hk
    have sub : ∀ s ∈ subsL (.mk k p ks ws) r, ∃ i x, ks[i]? = some x ∧ s = tileL x (partL k (lensOf (.mk k p ks ws) r) r i) := by
      intro s hs
      obtain ⟨i, hi, rfl⟩ := List.getElem_of_mem hs
      have hi' : i < ks.length := by have := subs_len (.mk k p ks ws) r; rw [this] at hi; exact hi
      have hx : ks[i]? = some ks[i] := List.getElem?_eq_getElem hi'
      have := subs_at (l := .mk k p ks ws) (r := r) (i := i) (x := ks[i]) hx
      rw [List.getElem?_eq_getElem hi] at this
      exact ⟨i, _, hx, Option.some.inj this⟩
    refine ⟨fun t ht => ?_, fun u hu => ?_⟩
    · simp only [List.mem_flatten, List.mem_map] at ht
      obtain ⟨_, ⟨s, hs, rfl⟩, ht⟩ := ht
      obtain ⟨i, x, hx, rfl⟩ := sub s hs
      have hxm := List.mem_of_getElem? hx
      obtain ⟨g1, g2⟩ := kid_fits hok hk hf hx
      obtain ⟨j1, j2, j3⟩ := (ih x hxm (hko x hxm) _ g1).1 t ht
      exact ⟨inside_trans j1 g2, j2, j3⟩
    · rw [List.mem_append] at hu
      rcases hu with hu | hu
      · unfold ownL at hu
        obtain ⟨i, hi, rfl⟩ := List.mem_map.1 hu
        have hi' : i + 1 < ks.length := by
          have := List.mem_range.1 hi
          have : i < ks.length - 1 := this
          omega
        obtain ⟨n, -, -, h1, h2, h3, -⟩ := kid_place hok hk hf (List.getElem?_eq_getElem hi' : ks[i + 1]? = some ks[i + 1])
        have hin : insideR (partR k r (offL (lensOf (.mk k p ks ws) r) (i + 1) - 1) 1) r := part_inside (by omega) (by omega)
        refine ⟨hin, ?_⟩
        show 1 ≤ (partR k r _ 1).cols ∧ 1 ≤ (partR k r _ 1).rows ∧ (decide (k = 2) = true → (partR k r _ 1).cols = 1) ∧ (decide (k = 2) = false → (partR k r _ 1).rows = 1)
        rcases hk2 with rfl | rfl
        · rw [partR, if_pos rfl]
          refine ⟨by dsimp only; omega, by dsimp only; omega, fun _ => rfl, fun h => by simp at h⟩
        · rw [partR, if_neg (by decide)]
          refine ⟨by dsimp only; omega, by dsimp only; omega, fun h => by simp at h, fun _ => rfl⟩
      · simp only [List.mem_flatten, List.mem_map] at hu
        obtain ⟨_, ⟨s, hs, rfl⟩, hu⟩ := hu
        obtain ⟨i, x, hx, rfl⟩ := sub s hs
        have hxm := List.mem_of_getElem? hx
        obtain ⟨g1, g2⟩ := kid_fits hok hk hf hx
        obtain ⟨j1, j2⟩ := (ih x hxm (hko x hxm) _ g1).2 u hu
        exact ⟨inside_trans j1 g2, j2⟩
theorem tile_panes : ∀ L : Lay, okTree L = true → ∀ r, (tileL L r).1.map Til.pane = panesL L := by
  intro L
  induction L using Lay.ind with | h k p ks ws ih => ?_
  intro hok r
  rw [tileL_eq, panesL_mk]
  by_cases hk : k = 1
  · have e : (Lay.mk k p ks ws).kind = 1 := hk
    rw [if_pos e, if_pos hk]
    rfl
  · have e : ¬ (Lay.mk k p ks ws).kind = 1 := hk
    rw [if_neg e, if_neg hk]
    obtain ⟨-, -, -, -, -, -, hko⟩ := split_facts hok hk
    show ((List.map Prod.fst (subsL (Lay.mk k p ks ws) r)).flatten).map Til.pane = _
    rw [List.map_flatten, List.map_map]
    congr 1
    apply List.ext_getElem?
    intro i
    rw [List.getElem?_map, List.getElem?_map]
    by_cases hi : i < ks.length
    · have hx : ks[i]? = some ks[i] := List.getElem?_eq_getElem hi
      rw [subs_at (l := .mk k p ks ws) (r := r) (i := i) (x := ks[i]) hx, hx]
      have hxm := List.mem_of_getElem? hx
      simp only [Option.map_some, Function.comp_def]
      rw [ih _ hxm (hko _ hxm)]
    · rw [List.getElem?_eq_none (by rw [subs_len]; exact Nat.le_of_not_lt hi), List.getElem?_eq_none (by omega)]
      rfl
theorem covs_le (l : List Rct) (y x : Int) : covs l y x ≤ l.length := by
  induction l with
  | nil => exact Nat.le_refl _
  | cons q l ih =>
    rw [covs_cons, List.length_cons]
    have : covR q y x ≤ 1 := by
      unfold covR
      split <;> omega
    omega
theorem covs_snoc (l : List Rct) (q : Rct) (y x : Int) : covs (l ++ [q]) y x = covs l y x + covR q y x := by
  rw [covs_append, covs_cons, covs_nil, Nat.add_zero]
theorem rectsT_take {ts : List Til} {m : Nat} {t : Til} (h : ts[m]? = some t) : rectsT (ts.take (m + 1)) = rectsT (ts.take m) ++ [t.at_] := by
  rw [take_snoc h, rectsT_append]
  rfl
theorem rectsU_take {us : List Rul} {m : Nat} {u : Rul} (h : us[m]? = some u) : rectsU (us.take (m + 1)) = rectsU (us.take m) ++ [u.at_] := by
  rw [take_snoc h, rectsU_append]
  rfl
end Go.Proofs.Ytbobpgegkmcapaa

namespace Go.Proofs.Ytbobpgegkmcapaa
open Go.RowKit

/-- A row of counters. -/
def CntAt (w : World) (cb N : Nat) (C : Nat → Int) : Prop := ∃ cur, Blk w cb 3 cur ∧ cur.size = N ∧ ∀ j, j < N → cur[j]? = some (.int .i64 (C j))
theorem CntAt.lt {w : World} {cb N : Nat} {C : Nat → Int} (h : CntAt w cb N C) : cb < w.heap.size := by
  obtain ⟨cur, h1, -, -⟩ := h
  exact h1.lt
theorem CntAt.cell {w : World} {cb N : Nat} {C : Nat → Int} (h : CntAt w cb N C) {j : Nat} (hj : j < N) : w.cell? ⟨cb, j, none⟩ = some (.int .i64 (C j)) ∧ w.frozen? ⟨cb, j, none⟩ = false := by
  obtain ⟨cur, h1, h2, h3⟩ := h
  exact ⟨(h1.cell j).trans (h3 j hj), h1.frozen j⟩
theorem CntAt.same {w w' : World} {cb N : Nat} {C : Nat → Int} (h : CntAt w cb N C) (g : Grows w w') : CntAt w' cb N C := by
  obtain ⟨cur, h1, h2, h3⟩ := h
  exact ⟨cur, h1.grows g, h2, h3⟩
theorem CntAt.other {w : World} {cb N p i : Nat} {C : Nat → Int} {v : Value} (h : CntAt w cb N C) (hp : p ≠ cb) : CntAt (w.setCell ⟨p, i, none⟩ v) cb N C := by
  obtain ⟨cur, h1, h2, h3⟩ := h
  exact ⟨cur, h1.other hp, h2, h3⟩
theorem CntAt.kept {w w' : World} {row : Option Nat} {cb N : Nat} {C : Nat → Int} (h : CntAt w cb N C) (g : w.grownBy w' row) (hr : row ≠ some cb) : CntAt w' cb N C := by
  obtain ⟨cur, h1, h2, h3⟩ := h
  exact ⟨cur, h1.kept g hr, h2, h3⟩
theorem CntAt.set {w : World} {cb N j0 : Nat} {C C' : Nat → Int} {v : Int} (h : CntAt w cb N C) (hj : j0 < N) (hC : ∀ j, j < N → C' j = if j = j0 then v else C j) : CntAt (w.setCell ⟨cb, j0, none⟩ (.int .i64 v)) cb N C' := by
  obtain ⟨cur, h1, h2, h3⟩ := h
  refine ⟨_, h1.set j0 _, by simpa using h2, fun j hjn => ?_⟩
  rw [hC j hjn, Array.getElem?_setIfInBounds]
  by_cases e : j0 = j
  · subst e
    rw [if_pos rfl, if_pos (by omega), if_pos rfl]
  · rw [if_neg e, if_neg (fun h => e h.symm)]
    exact h3 j hjn
theorem CntAt.of {w : World} {cb N : Nat} {C C' : Nat → Int} (h : CntAt w cb N C) (hC : ∀ j, j < N → C' j = C j) : CntAt w cb N C' := by
  obtain ⟨cur, h1, h2, h3⟩ := h
  exact ⟨cur, h1, h2, fun j hj => by rw [hC j hj]; exact h3 j hj⟩
/-- The row and the column of a counter. -/
def cy (row : Int) (cn j : Nat) : Int := row + (j / cn : Nat)
def cx (col : Int) (cn j : Nat) : Int := col + (j % cn : Nat)
theorem cov_col (a c k y x : Int) (hk : 0 ≤ k) : covR ⟨a, c, 1, k + 1⟩ y x = covR ⟨a, c, 1, k⟩ y x + if y = a ∧ x = c + k then 1 else 0 := by
  unfold covR
  dsimp only
  by_cases h1 : y = a
  · by_cases h2 : x = c + k
    · rw [if_pos (by omega), if_neg (by omega), if_pos ⟨h1, h2⟩]
    · rw [if_neg (show ¬ (y = a ∧ x = c + k) from fun h => h2 h.2)]
      by_cases h3 : c ≤ x ∧ x < c + k
      · rw [if_pos (by omega), if_pos (by omega)]
      · rw [if_neg (by omega), if_neg (by omega)]
  · rw [if_neg (show ¬ (y = a ∧ x = c + k) from fun h => h1 h.1), if_neg (by omega), if_neg (by omega)]
theorem cov_row (a c i m y x : Int) (hi : 0 ≤ i) : covR ⟨a, c, i + 1, m⟩ y x = covR ⟨a, c, i, m⟩ y x + covR ⟨a + i, c, 1, m⟩ y x := by
  unfold covR
  dsimp only
  by_cases h1 : c ≤ x ∧ x < c + m
  · by_cases h2 : a ≤ y ∧ y < a + i
    · rw [if_pos (by omega), if_pos (by omega), if_neg (by omega)]
    · by_cases h3 : y = a + i
      · rw [if_pos (by omega), if_neg (by omega), if_pos (by omega)]
      · rw [if_neg (by omega), if_neg (by omega), if_neg (by omega)]
  · rw [if_neg (by omega), if_neg (by omega), if_neg (by omega)]
theorem cov_row0 (a c m y x : Int) : covR ⟨a, c, 0, m⟩ y x = 0 := by
  unfold covR
  rw [if_neg (by dsimp only; omega)]
theorem cov_col0 (a c y x : Int) : covR ⟨a, c, 1, 0⟩ y x = 0 := by
  unfold covR
  rw [if_neg (by dsimp only; omega)]
theorem cov_le1 (q : Rct) (y x : Int) : covR q y x ≤ 1 := by
  unfold covR
  split <;> omega
/-- Where a cell's counter lies. -/
theorem cnt_index {rn cn i k : Nat} (hi : i < rn) (hk : k < cn) : i * cn + k < rn * cn ∧ (i * cn + k) / cn = i ∧ (i * cn + k) % cn = k := by
  refine ⟨?_, ?_, ?_⟩
  · calc i * cn + k < i * cn + cn := by omega
      _ = (i + 1) * cn := by rw [Nat.add_mul, Nat.one_mul]
      _ ≤ rn * cn := Nat.mul_le_mul_right _ hi
  · rw [Nat.mul_comm, Nat.mul_add_div (by omega), Nat.div_eq_of_lt hk]
    rfl
  · rw [Nat.mul_comm, Nat.mul_add_mod, Nat.mod_eq_of_lt hk]
theorem cnt_at {cn i k j : Nat} (hk : k < cn) : (j / cn = i ∧ j % cn = k) ↔ j = i * cn + k := by
  constructor
  · rintro ⟨rfl, rfl⟩
    have := Nat.div_add_mod j cn
    rw [Nat.mul_comm] at this
    exact this.symm
  · rintro rfl
    have := cnt_index (rn := i + 1) (Nat.lt_succ_self i) hk
    exact this.2
end Go.Proofs.Ytbobpgegkmcapaa

namespace Go.Proofs.Ytbobpgegkmcapaa
open Go.RowKit

theorem cnt_step {C : Nat → Int} {row col qr qc V : Int} {cn ya xa R M k j j0 : Nat} (hya : qr = row + ya) (hxa : qc = col + xa) (hk : xa + k < cn) (hj0 : j0 = (ya + R) * cn + (xa + k)) (hV : C j0 + covR ⟨qr, qc, R, M⟩ (cy row cn j0) (cx col cn j0) + covR ⟨qr + R, qc, 1, k⟩ (cy row cn j0) (cx col cn j0) = V) :
    C j + covR ⟨qr, qc, R, M⟩ (cy row cn j) (cx col cn j) + covR ⟨qr + R, qc, 1, ((k + 1 : Nat) : Int)⟩ (cy row cn j) (cx col cn j) = if j = j0 then V + 1 else C j + covR ⟨qr, qc, R, M⟩ (cy row cn j) (cx col cn j) + covR ⟨qr + R, qc, 1, k⟩ (cy row cn j) (cx col cn j) := by
  rw [Int.natCast_add, Int.natCast_one, cov_col _ _ _ _ _ (by omega)]
  have key := cnt_at (j := j) (i := ya + R) hk
  rw [← hj0] at key
  by_cases h : j = j0
  · have h2 := key.2 h
    subst h
    rw [if_pos rfl, if_pos (by unfold cy cx; omega)]
    omega
  · rw [if_neg h, if_neg (fun h2 => h (key.1 (by unfold cy cx at h2; omega)))]
    omega
set_option maxRecDepth 100000 in
set_option maxHeartbeats 4000000 in
theorem add_any {W0 w : World} {pr pc cb N : Nat} {row col : Int} {rn cn : Nat} {C : Nat → Int} (hrow : 0 ≤ row ∧ row ≤ 9999) (hcol : 0 ≤ col ∧ col ≤ 9999) (hrn : rn ≤ 60) (hcn : cn ≤ 100) (hN : N = rn * cn) (qr qc : Int) (R M : Nat) (hR : 1 ≤ R) (hM : 1 ≤ M)
    (h1 : row ≤ qr) (h2 : qr + R ≤ row + rn) (h3 : col ≤ qc) (h4 : qc + M ≤ col + cn) (hpr : Blk w pr 27 #[.int .i64 row, .int .i64 col, .int .i64 rn, .int .i64 cn]) (hpc : Blk w pc 23 #[.slice (some ⟨cb, 0, none⟩) N N]) (hne : pr ≠ cb ∧ pc ≠ cb) (hcnt : CntAt w cb N C) (hC : ∀ j, j < N → 0 ≤ C j ∧ C j ≤ 1000) (hcb : W0.heap.size ≤ cb) (g : Grows W0 w) :
    Calls Try.prog 27 #[.agg #[.int .i64 qr, .int .i64 qc, .int .i64 R, .int .i64 M], .pointer (some ⟨pr, 0, none⟩), .pointer (some ⟨pc, 0, none⟩)] w (fun e w' => e = .returned (.bool true) ∧ CntAt w' cb N (fun j => C j + covR ⟨qr, qc, R, M⟩ (cy row cn j) (cx col cn j)) ∧ Grows W0 w' ∧ Same (fun b => b ≠ cb) w w') := by
  have hcbl := hcnt.lt
  have HG := Lib.hid g
  have HPR := Lib.hid hpr
  have HPC := Lib.hid hpc
  have HC := Lib.hid hC
  have HCNT := Lib.hid hcnt
  have HN := Lib.hid hN
  have hn1 := hne.1
  have hn2 := hne.2
  have hgs := g.size
  clear g hpr hpc hC hcnt hN hne
  go_enter Try.func27, Try.ntmps27
  go_upto_region 1 with fail
  refine abs_worldM (fun W => Grows w W ∧ Blk W w.heap.size 27 #[.int .i64 qr, .int .i64 qc, .int .i64 R, .int .i64 M]) ⟨(by repeat' (first | (with_reducible exact Grows.refl _) | (with_reducible refine Grows.alloc ?_ _) | (with_reducible refine Grows.drew ?_) | (with_reducible refine Grows.ext ?_ _ _))), Blk.new (by simp)⟩ ?_
  rintro W1 ⟨hg1, hb⟩
  have HG1 := Lib.hid hg1
  have HB := Lib.hid hb
  obtain ⟨a0, a1, a2, a3⟩ := hb.four
  obtain ⟨b0, b1, b2, b3⟩ := (HPR.out.grows hg1).four
  obtain ⟨c0, -⟩ := (HPC.out.grows hg1).one
  have hl0 := hb.lt
  have hl1 := (HPR.out.grows hg1).lt
  have hl2 := (HPC.out.grows hg1).lt
  have hnb : w.heap.size ≠ cb := by omega
  clear hg1 hb
  go_upto_block 0 with fail
  all_goals (try (exfalso; omega))
  go_wp2_with fail
  go_loopw [57] (fun i wr => ∃ (m : Nat) (wv : World), wv = wr ∧ m ≤ R ∧ i = .int .i64 m ∧ CntAt wv cb N (fun j => C j + covR ⟨qr, qc, m, M⟩ (cy row cn j) (cx col cn j)) ∧ Grows W0 wv ∧ Same (fun b => b ≠ cb) W1 wv) (fun i _ => R - (intOf i).toNat)
  case atStart => exact ⟨0, _, rfl, Nat.zero_le _, rfl, (HCNT.out.same HG1.out).of (fun j _ => by simp [cov_row0]), HG.out.trans HG1.out, Same.refl _ _⟩
  case round =>
    obtain ⟨m, wv, rfl, hm, rfl, hct, hg, hs⟩ := hrel
    have HS := Lib.hid hs
    have HGv := Lib.hid hg
    have HCT := Lib.hid hct
    obtain ⟨a0, a1, a2, a3⟩ := (HB.out.same hs hnb).four
    have hl0 := (HB.out.same hs hnb).lt
    clear hct hg hs
    by_cases hlt : m < R
    · go_wp2_with fail
      go_loopw [62] (fun i wr => ∃ (k : Nat) (wv : World), wv = wr ∧ k ≤ M ∧ i = .int .i64 k ∧ CntAt wv cb N (fun j => C j + covR ⟨qr, qc, m, M⟩ (cy row cn j) (cx col cn j) + covR ⟨qr + m, qc, 1, k⟩ (cy row cn j) (cx col cn j)) ∧ Grows W0 wv ∧ Same (fun b => b ≠ cb) W1 wv) (fun i _ => M - (intOf i).toNat)
      case atStart => exact ⟨0, _, rfl, Nat.zero_le _, rfl, HCT.out.of (fun j _ => by simp [cov_col0]), HGv.out, HS.out⟩
      case round =>
        obtain ⟨k, wv, rfl, hk, rfl, hct, hg, hs⟩ := hrel
        have HSk := Lib.hid hs
        have HGk := Lib.hid hg
        have HCTk := Lib.hid hct
        obtain ⟨a0, a1, a2, a3⟩ := (HB.out.same hs hnb).four
        have hl0 := (HB.out.same hs hnb).lt
        obtain ⟨b0, b1, b2, b3⟩ := ((HPR.out.grows HG1.out).same hs hn1).four
        have hl1 := ((HPR.out.grows HG1.out).same hs hn1).lt
        obtain ⟨c0, -⟩ := ((HPC.out.grows HG1.out).same hs hn2).one
        have hl2 := ((HPC.out.grows HG1.out).same hs hn2).lt
        clear hct hg hs
        by_cases hlk : k < M
        · obtain ⟨ya, hya⟩ : ∃ z : Nat, qr = row + z := ⟨(qr - row).toNat, by omega⟩
          obtain ⟨xa, hxa⟩ : ∃ z : Nat, qc = col + z := ⟨(qc - col).toNat, by omega⟩
          obtain ⟨x1, x2, x3⟩ := cnt_index (rn := rn) (cn := cn) (i := ya + m) (k := xa + k) (by omega) (by omega)
          have hle : (ya + m) * cn ≤ 60 * 100 := Nat.mul_le_mul (by omega) hcn
          obtain ⟨P, hP⟩ : ∃ z, (ya + m) * cn = z := ⟨_, rfl⟩
          have hPe : (qr - row + (m : Int)) * (cn : Int) = (P : Int) := by
            rw [← hP, hya, show row + (ya : Int) - row + (m : Int) = ((ya + m : Nat) : Int) by omega]
            norm_cast
          rw [hP] at hle x1 x2 x3
          obtain ⟨j0, hj0⟩ : ∃ z, P + (xa + k) = z := ⟨_, rfl⟩
          have hje : (P : Int) + qc - col + (k : Int) = (j0 : Int) := by omega
          rw [hj0, ← HN.out] at x1
          rw [hj0] at x2 x3
          have hc9 := HC.out j0 x1
          obtain ⟨V, hV⟩ : ∃ z, C j0 + covR ⟨qr, qc, m, M⟩ (cy row cn j0) (cx col cn j0) + covR ⟨qr + m, qc, 1, k⟩ (cy row cn j0) (cx col cn j0) = z := ⟨_, rfl⟩
          have hVr : 0 ≤ V ∧ V ≤ 1002 := by
            have g1 := cov_le1 ⟨qr, qc, m, M⟩ (cy row cn j0) (cx col cn j0)
            have g2 := cov_le1 ⟨qr + m, qc, 1, k⟩ (cy row cn j0) (cx col cn j0)
            omega
          obtain ⟨e0, e1⟩ := HCTk.out.cell x1
          rw [hV] at e0
          have HV := Lib.hid hV
          have HX := Lib.hid (And.intro x2 x3)
          have HY := Lib.hid (And.intro hya hxa)
          have hcl := HCTk.out.lt
          have HST := Lib.hid fun (j : Nat) => cnt_step (C := C) (R := m) (M := M) (j := j) (j0 := j0) (k := k) hya hxa (show xa + k < cn by omega) (by rw [hP]; exact hj0.symm) hV
          clear hV x2 x3 hj0 hP hya hxa hc9 HX HY
          go_wp2_with fail
          go_roundw
          case rel => exact ⟨k + 1, _, rfl, by omega, by go_num, HCTk.out.set x1 (fun j _ => HST.out j), HGk.out.setCell hcb _, HSk.out.trans (same_set (fun h => Ne.irrefl h))⟩
          case measure => simp [intOf]; omega
        · have e : k = M := by omega
          subst e
          go_wp2_with fail
          go_roundw
          case rel => exact ⟨m + 1, _, rfl, by omega, by go_num, HCTk.out.of (fun j _ => by rw [Int.natCast_add, Int.natCast_one, cov_row _ _ _ _ _ _ (by omega)]; omega), HGk.out, HSk.out⟩
          case measure => simp [intOf]; omega
    · have e : m = R := by omega
      subst e
      go_wp2_with fail
      go_ret
      exact ⟨rfl, HCT.out, HGv.out, (Grows.same HG1.out _).trans HS.out⟩
end Go.Proofs.Ytbobpgegkmcapaa

namespace Go.Proofs.Ytbobpgegkmcapaa
open Go.RowKit

theorem ne_one (w : World) : Calls Try.prog 29 #[.int .i64 1] w (Ret (.bool false) w) := by
  go_enter Try.func29, Try.ntmps29
  go_wp2
  go_returns
  exact ⟨rfl, (by repeat' (first | (with_reducible exact Grows.refl _) | (with_reducible refine Grows.alloc ?_ _) | (with_reducible refine Grows.drew ?_) | (with_reducible refine Grows.ext ?_ _ _)))⟩
set_option maxRecDepth 100000 in
set_option maxHeartbeats 2000000 in
theorem index_no {w : World} {cb N : Nat} {C : Nat → Int} (h : CntAt w cb N C) (hC : ∀ j, j < N → C j = 1) (hN : N ≤ 6000) : Calls Try.prog 54 #[.slice (some ⟨cb, 0, none⟩) N N, .func (.func 29) #[] #[]] w (Ret (.int .i64 (-1)) w) := by
  have H := Lib.hid (h.of (C' := fun _ => 1) fun j hj => (hC j hj).symm)
  clear h hC
  go_enter Try.func54, Try.ntmps54
  go_wp2_with fail
  go_loopw [8] (fun i wr => ∃ (m : Nat) (wv : World), wv = wr ∧ m ≤ N ∧ i = .int .i64 m ∧ Grows w wv) (fun i _ => N - (intOf i).toNat)
  case atStart => exact ⟨0, _, rfl, Nat.zero_le _, rfl, (by repeat' (first | (with_reducible exact Grows.refl _) | (with_reducible refine Grows.alloc ?_ _) | (with_reducible refine Grows.drew ?_) | (with_reducible refine Grows.ext ?_ _ _)))⟩
  case round =>
    obtain ⟨m, wv, rfl, hm, rfl, hg⟩ := hrel
    have HG := Lib.hid hg
    by_cases hlt : m < N
    · have e0 := ((H.out.same hg).cell hlt).1
      have hl := (H.out.same hg).lt
      clear hg
      go_wp2_with (go_at_call 29; (with_reducible refine (ne_one _).mono ?_); rintro e wq ⟨rfl, hq⟩)
      go_roundw
      case rel => exact ⟨m + 1, _, rfl, by omega, by go_num, (HG.out.trans (by repeat' (first | (with_reducible exact Grows.refl _) | (with_reducible refine Grows.alloc ?_ _) | (with_reducible refine Grows.drew ?_) | (with_reducible refine Grows.ext ?_ _ _)))).trans (hq.trans (by repeat' (first | (with_reducible exact Grows.refl _) | (with_reducible refine Grows.alloc ?_ _) | (with_reducible refine Grows.drew ?_) | (with_reducible refine Grows.ext ?_ _ _))))⟩
      case measure => simp [intOf]; omega
    · have e : m = N := by omega
      subst e
      clear hg
      go_wp2_with fail
      go_ret
      exact ⟨rfl, HG.out.trans (by repeat' (first | (with_reducible exact Grows.refl _) | (with_reducible refine Grows.alloc ?_ _) | (with_reducible refine Grows.drew ?_) | (with_reducible refine Grows.ext ?_ _ _)))⟩
theorem contains_no {w : World} {cb N : Nat} {C : Nat → Int} (h : CntAt w cb N C) (hC : ∀ j, j < N → C j = 1) (hN : N ≤ 6000) : Calls Try.prog 28 #[.slice (some ⟨cb, 0, none⟩) N N, .func (.func 29) #[] #[]] w (Ret (.bool false) w) := by
  have HI := Lib.hid fun W (g : Grows w W) => index_no (h.same g) hC hN
  clear h hC
  go_enter Try.func28, Try.ntmps28
  go_wp2_with (go_at_call 54; (go_must (with_reducible refine (HI.out _ (by repeat' (first | (with_reducible exact Grows.refl _) | (with_reducible refine Grows.alloc ?_ _) | (with_reducible refine Grows.drew ?_) | (with_reducible refine Grows.ext ?_ _ _)))).mono ?_)); rintro e wq ⟨rfl, hq⟩)
  go_returns
  exact ⟨rfl, Grows.trans (by repeat' (first | (with_reducible exact Grows.refl _) | (with_reducible refine Grows.alloc ?_ _) | (with_reducible refine Grows.drew ?_) | (with_reducible refine Grows.ext ?_ _ _))) (hq.trans (by repeat' (first | (with_reducible exact Grows.refl _) | (with_reducible refine Grows.alloc ?_ _) | (with_reducible refine Grows.drew ?_) | (with_reducible refine Grows.ext ?_ _ _))))⟩
end Go.Proofs.Ytbobpgegkmcapaa

