/-
  Walks: axes, isSplit, leaf. Walks: minimum, of the program. Walks: minimum, of the reference. The iterator over the nodes of a layout. The contract of the iterator over the nodes of a layout. Walks: validNode.
-/
import Derived.Test.YtbobpgegkmcapaaRows
import Derived.Test.YtbobpgegkmcapaaM1
import Derived.WalkKit
import Derived.WalkSpells
import Derived.WalkLawsBesides
import Derived.Handy
import Derived.Laws.Rows
import Derived.Great.BuildSlice
import Derived.Deep.Heap
import Derived.IntWalk
import Derived.Lib.Hide
import Derived.Outline
import Derived.Deep.Light
import Derived.Deep.LoopGhost
import Derived.BigGuardPart
import Derived.BigQuiet
import Derived.Deep.QuietTactic
import Derived.Deep.RegionHeld3
import Derived.Deep.DeepCutAuto
import Derived.Laws.EntriesVeiled
import Derived.Deep.CutBlock
import Derived.Shelf.Abstract
import Derived.OwnWalkIn
import Derived.TacticsInMore
import Derived.LoopNIn
import Derived.LoopIn
import Derived.RangeFuncBox
import Derived.RangeFuncBound
import Derived.RangeFuncCalls
import Derived.RangeFuncLeaves
import Derived.RangeFuncNested
import Derived.Scope
import Derived.WalkMore
namespace Go.Proofs.Ytbobpgegkmcapaa
open Go.RowKit

theorem width_any (c r : Int) (w : World) : Calls Try.prog 80 #[.agg #[.int .i64 c, .int .i64 r]] w (Ret (.int .i64 c) w) := by
  go_enter Try.func80, Try.ntmps80
  go_wp2
  go_returns
  exact ⟨rfl, (by repeat' (first | (with_reducible exact Grows.refl _) | (with_reducible refine Grows.alloc ?_ _) | (with_reducible refine Grows.drew ?_) | (with_reducible refine Grows.ext ?_ _ _)))⟩
theorem height_any (c r : Int) (w : World) : Calls Try.prog 81 #[.agg #[.int .i64 c, .int .i64 r]] w (Ret (.int .i64 r) w) := by
  go_enter Try.func81, Try.ntmps81
  go_wp2
  go_returns
  exact ⟨rfl, (by repeat' (first | (with_reducible exact Grows.refl _) | (with_reducible refine Grows.alloc ?_ _) | (with_reducible refine Grows.drew ?_) | (with_reducible refine Grows.ext ?_ _ _)))⟩
theorem info3 : (Try.prog.info? 3).map (fun i => (i.zero, i.size, i.bytes)) = some (some (.int .i64 0), 1, 8) := by kernel_rfl
theorem info25 : (Try.prog.info? 25).map (fun i => (i.zero, i.size, i.bytes)) = some (some (.agg #[.int .i64 0, .int .i64 0, .slice none 0 0, .slice none 0 0]), 4, 64) := by kernel_rfl
theorem info41 : (Try.prog.info? 41).map (fun i => (i.zero, i.size, i.bytes)) = some (some (.agg #[.int .i64 0, .int .i64 0, .int .i64 0, .int .i64 0, .int .i64 0]), 5, 40) := by kernel_rfl
theorem info44 : (Try.prog.info? 44).map (fun i => (i.zero, i.size, i.bytes)) = some (some (.agg #[.int .i64 0, .int .i64 0, .int .i64 0, .int .i64 0, .bool false]), 5, 40) := by kernel_rfl
def axesV (k : Int) : Value := if k = 2 then .agg #[.func (.func 80) #[] #[], .func (.func 81) #[] #[]] else .agg #[.func (.func 81) #[] #[], .func (.func 80) #[] #[]]
theorem axes_2 (w : World) : Calls Try.prog 69 #[.int .i64 2] w (Ret (.agg #[.func (.func 80) #[] #[], .func (.func 81) #[] #[]]) w) := by
  go_enter Try.func69, Try.ntmps69
  go_wp2
  go_returns
  exact ⟨rfl, (by repeat' (first | (with_reducible exact Grows.refl _) | (with_reducible refine Grows.alloc ?_ _) | (with_reducible refine Grows.drew ?_) | (with_reducible refine Grows.ext ?_ _ _)))⟩
theorem axes_3 (k : Int) (hk : ¬ k = 2) (w : World) : Calls Try.prog 69 #[.int .i64 k] w (Ret (.agg #[.func (.func 81) #[] #[], .func (.func 80) #[] #[]]) w) := by
  have e : (k == 2) = false := by simpa using hk
  go_enter Try.func69, Try.ntmps69
  go_wp2
  go_returns
  exact ⟨rfl, (by repeat' (first | (with_reducible exact Grows.refl _) | (with_reducible refine Grows.alloc ?_ _) | (with_reducible refine Grows.drew ?_) | (with_reducible refine Grows.ext ?_ _ _)))⟩
theorem isSplit_any (k : Int) (w : World) : Calls Try.prog 56 #[.int .i64 k] w (Ret (.bool (decide (k = 2) || decide (k = 3))) w) := by
  by_cases h2 : k = 2
  · subst h2
    go_enter Try.func56, Try.ntmps56
    go_wp2
    go_returns
    exact ⟨rfl, (by repeat' (first | (with_reducible exact Grows.refl _) | (with_reducible refine Grows.alloc ?_ _) | (with_reducible refine Grows.drew ?_) | (with_reducible refine Grows.ext ?_ _ _)))⟩
  · have e : (k == 2) = false := by simpa using h2
    go_enter Try.func56, Try.ntmps56
    go_wp2
    go_returns
    exact ⟨ret_bool (by simp [h2]; rfl), (by repeat' (first | (with_reducible exact Grows.refl _) | (with_reducible refine Grows.alloc ?_ _) | (with_reducible refine Grows.drew ?_) | (with_reducible refine Grows.ext ?_ _ _)))⟩
theorem leaf_any (p : Int) (w : World) : Calls Try.prog 63 #[.int .i64 p] w (Ret (.agg #[.int .i64 1, .int .i64 p, .slice none 0 0, .slice none 0 0]) w) := by
  go_enter Try.func63, Try.ntmps63
  go_wp2
  go_returns
  exact ⟨rfl, (by repeat' (first | (with_reducible exact Grows.refl _) | (with_reducible refine Grows.alloc ?_ _) | (with_reducible refine Grows.drew ?_) | (with_reducible refine Grows.ext ?_ _ _)))⟩
theorem rleaf_any (p : Int) (w : World) : Calls Try.prog 75 #[.int .i64 p] w (Ret (.agg #[.int .i64 1, .int .i64 p, .slice none 0 0, .slice none 0 0]) w) := by
  go_enter Try.func75, Try.ntmps75
  go_wp2
  go_returns
  exact ⟨rfl, (by repeat' (first | (with_reducible exact Grows.refl _) | (with_reducible refine Grows.alloc ?_ _) | (with_reducible refine Grows.drew ?_) | (with_reducible refine Grows.ext ?_ _ _)))⟩
end Go.Proofs.Ytbobpgegkmcapaa

namespace Go.Proofs.Ytbobpgegkmcapaa
open Go.RowKit

theorem ret_pair {a b c d : Int} (h : a = c) (h2 : b = d) : Ending.returned (.agg #[.int .i64 a, .int .i64 b]) = .returned (.agg #[.int .i64 c, .int .i64 d]) := by rw [h, h2]
theorem sumI_range {l : List Int} {c : Int} (h : ∀ x ∈ l, 0 ≤ x ∧ x ≤ c) : 0 ≤ sumI l ∧ sumI l ≤ c * l.length := by
  induction l with
  | nil => simp [sumI]
  | cons x l ih =>
    have h1 := h x (by simp)
    have h2 := ih fun y hy => h y (by simp [hy])
    simp only [sumI_cons, List.length_cons, Int.natCast_add, Int.mul_add]
    omega
theorem maxI_range {l : List Int} {c : Int} (hc : 0 ≤ c) (h : ∀ x ∈ l, x ≤ c) : 0 ≤ maxI l ∧ maxI l ≤ c := by
  refine ⟨maxI_nonneg l, ?_⟩
  induction l with
  | nil => exact hc
  | cons x l ih =>
    have h1 := h x (by simp)
    have h2 := ih fun y hy => h y (by simp [hy])
    rw [maxI_cons]
    omega
/-- What the sums of the first i kids' sizes are bounded by. -/
theorem take_sum {f : Lay → Int} {ks : List Lay} (h : ∀ x ∈ ks, 0 ≤ f x ∧ f x ≤ 3000) (hn : ks.length ≤ 1000) (i : Nat) : 0 ≤ sumI ((ks.map f).take i) ∧ sumI ((ks.map f).take i) ≤ 3000000 := by
  have q : ∀ x ∈ (ks.map f).take i, 0 ≤ x ∧ x ≤ 3000 := fun x hx => by
    obtain ⟨y, hy, rfl⟩ := List.mem_map.1 (List.mem_of_mem_take hx)
    exact h y hy
  have h1 := sumI_range q
  have h2 : ((ks.map f).take i).length ≤ 1000 := by
    rw [List.length_take, List.length_map]
    omega
  omega
theorem take_max {f : Lay → Int} {ks : List Lay} (h : ∀ x ∈ ks, 0 ≤ f x ∧ f x ≤ 3000) (i : Nat) : 0 ≤ maxI ((ks.map f).take i) ∧ maxI ((ks.map f).take i) ≤ 3000 :=
  maxI_range (by omega) fun x hx => by
    obtain ⟨y, hy, rfl⟩ := List.mem_map.1 (List.mem_of_mem_take hx)
    exact (h y hy).2
theorem take_map_snoc {f : Lay → Int} {ks : List Lay} {i : Nat} {x : Lay} (h : ks[i]? = some x) : (ks.map f).take (i + 1) = (ks.map f).take i ++ [f x] := take_snoc (by rw [List.getElem?_map, h]; rfl)
theorem min_leaf (p : Int) (a0 a1 : Option Addr) (n0 c0 n1 c1 : Nat) (w : World) : Calls Try.prog 39 #[.agg #[.int .i64 1, .int .i64 p, .slice a0 n0 c0, .slice a1 n1 c1]] w (Ret (.agg #[.int .i64 2, .int .i64 1]) w) := by
  go_enter Try.func39, Try.ntmps39
  go_wp2
  go_returns
  exact ⟨rfl, (by repeat' (first | (with_reducible exact Grows.refl _) | (with_reducible refine Grows.alloc ?_ _) | (with_reducible refine Grows.drew ?_) | (with_reducible refine Grows.ext ?_ _ _)))⟩
set_option maxRecDepth 100000 in
set_option maxHeartbeats 2000000 in
theorem min_split2 {S : Nat → Prop} (p : Int) (ks : List Lay) (vk vw : Value) (w : World) (ih : ∀ x ∈ ks, ∀ (vk vw : Value) (w : World), LayAt S w x vk vw → Calls Try.prog 39 #[.agg #[.int .i64 x.kind, .int .i64 x.pane, vk, vw]] w (Ret (.agg #[.int .i64 (colsL x), .int .i64 (rowsL x)]) w))
    (hq : ∀ x ∈ ks, (0 ≤ colsL x ∧ colsL x ≤ 3000) ∧ (0 ≤ rowsL x ∧ rowsL x ≤ 3000)) (hn : ks.length ≤ 1000) (hk : KidsAt S w vk ks) (hw : ∃ a n c, vw = .slice a n c) :
    Calls Try.prog 39 #[.agg #[.int .i64 2, .int .i64 p, vk, vw]] w (Ret (.agg #[.int .i64 (sumI (ks.map colsL) + (ks.length - 1)), .int .i64 (maxI (ks.map rowsL))]) w) := by
  obtain ⟨a, cap, G, rfl, hcap, hmx, hin⟩ := hk.open_ rfl
  obtain ⟨wa, wn, wc, rfl⟩ := hw
  have Hin := Lib.hid hin
  have IH := Lib.hid ih
  have HQ := Lib.hid hq
  clear hin hk ih hq
  go_enter Try.func39, Try.ntmps39
  go_upto_region 1 with fail
  refine abs_worldM (fun W => Grows w W ∧ Blk W w.heap.size 25 #[.int .i64 2, .int .i64 p, .slice a ks.length cap, .slice wa wn wc] ∧ Blk W (w.heap.size + 1) 76 #[.int .i64 0, .int .i64 0]) (boxes2 _ _ _) ?_
  rintro W0 ⟨hg0, hb0, hb1⟩
  obtain ⟨c0, c1, c2, c3⟩ := hb0.four
  have hl0 := hb0.lt
  have hl1 := hb1.lt
  have HB1 := Lib.hid hb1
  have HB0 := Lib.hid hb0
  have HG0 := Lib.hid hg0
  clear hb0 hb1 hg0
  go_upto_block 0 with (first | (go_at_call 69; (with_reducible refine (axes_2 _).mono ?_); rintro e w' ⟨rfl, h11, d11, rfl⟩))
  refine abs_worldM (fun W => Grows W0 W ∧ Blk W (W0.heap.size + h11.size) 106 #[.func (.func 80) #[] #[], .func (.func 81) #[] #[]]) ?_ ?_
  · exact ⟨(by repeat' (first | (with_reducible exact Grows.refl _) | (with_reducible refine Grows.alloc ?_ _) | (with_reducible refine Grows.drew ?_) | (with_reducible refine Grows.ext ?_ _ _))), Blk.new (by simp)⟩
  rintro W1 ⟨hg1, hb2⟩
  obtain ⟨k0, k1, -, -⟩ := hb2.two
  have hl2 := hb2.lt
  have HG1 := Lib.hid hg1
  have HB2 := Lib.hid hb2
  obtain ⟨c0, c1, c2, c3⟩ := (HB0.out.grows hg1).four
  have hs1 := hg1.size
  clear hg1 hb2
  generalize W0.heap.size + h11.size = B2 at *
  go_wp2
  go_loopw [4, 5, 23] (fun al ac i wr => ∃ k : Nat, ∃ wv : World, wv = wr ∧ k ≤ ks.length ∧ i = .int .i64 k ∧ al = .int .i64 (ks.length - 1 + sumI ((ks.map colsL).take k)) ∧ ac = .int .i64 (maxI ((ks.map rowsL).take k)) ∧ Grows W1 wv) (fun _ _ i _ => ks.length - (intOf i).toNat)
  case atStart => exact ⟨0, _, rfl, Nat.zero_le _, rfl, by simp [sumI], by simp [maxI], Grows.refl _⟩
  case round =>
    obtain ⟨k, wv, rfl, hk, rfl, rfl, rfl, hg⟩ := hrel
    have HG := Lib.hid hg
    have hsz := hg.size
    by_cases hlt : k < ks.length
    · obtain ⟨b, off, x, ka, kn, kc, xa, xn, xc, rfl, hb, -, hx, hmem, -, -, e0, e1, e2, e3, hL⟩ := (Hin.out.grows ((HG0.out.trans HG1.out).trans hg)).at_ hlt
      have HL := Lib.hid hL
      have HX := Lib.hid hx
      have HM := Lib.hid hmem
      have hq := HQ.out x hmem
      have hs1 := take_sum (f := colsL) (fun x hx => (HQ.out x hx).1) hn k
      have hs2 := take_max (f := rowsL) (fun x hx => (HQ.out x hx).2) k
      have hk0 := (HB2.out.grows hg).two.1
      have hk1 := (HB2.out.grows hg).two.2.1
      have hlv := (HB2.out.grows hg).lt
      clear hL hx hmem hg
      go_wp2_with (first | (go_at_call 39; (with_reducible refine (IH.out _ HM.out _ _ _ (HL.out.grows (by repeat' (first | (with_reducible exact Grows.refl _) | (with_reducible refine Grows.alloc ?_ _) | (with_reducible refine Grows.drew ?_) | (with_reducible refine Grows.ext ?_ _ _))))).mono ?_); rintro e w' ⟨rfl, h12, d12, rfl⟩) | (go_at_call 80; (with_reducible refine (width_any _ _ _).mono ?_); rintro e w' ⟨rfl, h13, d13, rfl⟩) | (go_at_call 81; (with_reducible refine (height_any _ _ _).mono ?_); rintro e w' ⟨rfl, h14, d14, rfl⟩))
      go_roundw
      case rel => exact ⟨k + 1, _, rfl, by omega, by go_num, by rw [take_map_snoc HX.out, sumI_snoc]; go_num, by rw [take_map_snoc HX.out, maxI_snoc]; go_num, HG.out.trans (by repeat' (first | (with_reducible exact Grows.refl _) | (with_reducible refine Grows.alloc ?_ _) | (with_reducible refine Grows.drew ?_) | (with_reducible refine Grows.ext ?_ _ _)))⟩
      case measure => simp [intOf]; omega
    · have e : k = ks.length := by omega
      subst e
      obtain ⟨c0, c1, c2, c3⟩ := (HB0.out.grows (HG1.out.trans hg)).four
      obtain ⟨d0, d1, f0, f1⟩ := (HB1.out.grows (HG1.out.trans hg)).two
      have e1 : (ks.map colsL).take ks.length = ks.map colsL := List.take_of_length_le (by simp)
      have e2 : (ks.map rowsL).take ks.length = ks.map rowsL := List.take_of_length_le (by simp)
      rw [e1, e2]
      clear hg e1 e2
      go_wp2_with fail
      refine ret_cell (t := 76) (n := w.heap.size + 1) (cs := #[.int .i64 (↑ks.length - 1 + sumI (ks.map colsL)), .int .i64 (maxI (ks.map rowsL))]) rfl rfl ?_ Try.underlying76 rfl (by kernel_rfl) rfl ?_
      · exact ((HB1.out.grows (HG1.out.trans HG.out)).set 0 _).set 1 _
      · exact ⟨ret_pair (by omega) (by omega), (((HG0.out.trans HG1.out).trans HG.out).setCell (by omega) _).setCell (by omega) _⟩
set_option maxRecDepth 100000 in
set_option maxHeartbeats 2000000 in
theorem min_split3 {S : Nat → Prop} (p : Int) (ks : List Lay) (vk vw : Value) (w : World) (ih : ∀ x ∈ ks, ∀ (vk vw : Value) (w : World), LayAt S w x vk vw → Calls Try.prog 39 #[.agg #[.int .i64 x.kind, .int .i64 x.pane, vk, vw]] w (Ret (.agg #[.int .i64 (colsL x), .int .i64 (rowsL x)]) w))
    (hq : ∀ x ∈ ks, (0 ≤ colsL x ∧ colsL x ≤ 3000) ∧ (0 ≤ rowsL x ∧ rowsL x ≤ 3000)) (hn : ks.length ≤ 1000) (hk : KidsAt S w vk ks) (hw : ∃ a n c, vw = .slice a n c) :
    Calls Try.prog 39 #[.agg #[.int .i64 3, .int .i64 p, vk, vw]] w (Ret (.agg #[.int .i64 (maxI (ks.map colsL)), .int .i64 (sumI (ks.map rowsL) + (ks.length - 1))]) w) := by
  obtain ⟨a, cap, G, rfl, hcap, hmx, hin⟩ := hk.open_ rfl
  obtain ⟨wa, wn, wc, rfl⟩ := hw
  have Hin := Lib.hid hin
  have IH := Lib.hid ih
  have HQ := Lib.hid hq
  clear hin hk ih hq
  go_enter Try.func39, Try.ntmps39
  go_upto_region 1 with fail
  refine abs_worldM (fun W => Grows w W ∧ Blk W w.heap.size 25 #[.int .i64 3, .int .i64 p, .slice a ks.length cap, .slice wa wn wc] ∧ Blk W (w.heap.size + 1) 76 #[.int .i64 0, .int .i64 0]) (boxes2 _ _ _) ?_
  rintro W0 ⟨hg0, hb0, hb1⟩
  obtain ⟨c0, c1, c2, c3⟩ := hb0.four
  have hl0 := hb0.lt
  have hl1 := hb1.lt
  have HB1 := Lib.hid hb1
  have HB0 := Lib.hid hb0
  have HG0 := Lib.hid hg0
  clear hb0 hb1 hg0
  go_upto_block 0 with (first | (go_at_call 69; (with_reducible refine (axes_3 _ (by decide) _).mono ?_); rintro e w' ⟨rfl, h15, d15, rfl⟩))
  refine abs_worldM (fun W => Grows W0 W ∧ Blk W (W0.heap.size + h15.size) 106 #[.func (.func 81) #[] #[], .func (.func 80) #[] #[]]) ?_ ?_
  · exact ⟨(by repeat' (first | (with_reducible exact Grows.refl _) | (with_reducible refine Grows.alloc ?_ _) | (with_reducible refine Grows.drew ?_) | (with_reducible refine Grows.ext ?_ _ _))), Blk.new (by simp)⟩
  rintro W1 ⟨hg1, hb2⟩
  obtain ⟨k0, k1, -, -⟩ := hb2.two
  have hl2 := hb2.lt
  have HG1 := Lib.hid hg1
  have HB2 := Lib.hid hb2
  obtain ⟨c0, c1, c2, c3⟩ := (HB0.out.grows hg1).four
  have hs1 := hg1.size
  clear hg1 hb2
  generalize W0.heap.size + h15.size = B2 at *
  go_wp2
  go_loopw [4, 5, 23] (fun al ac i wr => ∃ k : Nat, ∃ wv : World, wv = wr ∧ k ≤ ks.length ∧ i = .int .i64 k ∧ al = .int .i64 (ks.length - 1 + sumI ((ks.map rowsL).take k)) ∧ ac = .int .i64 (maxI ((ks.map colsL).take k)) ∧ Grows W1 wv) (fun _ _ i _ => ks.length - (intOf i).toNat)
  case atStart => exact ⟨0, _, rfl, Nat.zero_le _, rfl, by simp [sumI], by simp [maxI], Grows.refl _⟩
  case round =>
    obtain ⟨k, wv, rfl, hk, rfl, rfl, rfl, hg⟩ := hrel
    have HG := Lib.hid hg
    have hsz := hg.size
    by_cases hlt : k < ks.length
    · obtain ⟨b, off, x, ka, kn, kc, xa, xn, xc, rfl, hb, -, hx, hmem, -, -, e0, e1, e2, e3, hL⟩ := (Hin.out.grows ((HG0.out.trans HG1.out).trans hg)).at_ hlt
      have HL := Lib.hid hL
      have HX := Lib.hid hx
      have HM := Lib.hid hmem
      have hq := HQ.out x hmem
      have hs1 := take_sum (f := rowsL) (fun x hx => (HQ.out x hx).2) hn k
      have hs2 := take_max (f := colsL) (fun x hx => (HQ.out x hx).1) k
      have hk0 := (HB2.out.grows hg).two.1
      have hk1 := (HB2.out.grows hg).two.2.1
      have hlv := (HB2.out.grows hg).lt
      clear hL hx hmem hg
      go_wp2_with (first | (go_at_call 39; (with_reducible refine (IH.out _ HM.out _ _ _ (HL.out.grows (by repeat' (first | (with_reducible exact Grows.refl _) | (with_reducible refine Grows.alloc ?_ _) | (with_reducible refine Grows.drew ?_) | (with_reducible refine Grows.ext ?_ _ _))))).mono ?_); rintro e w' ⟨rfl, h16, d16, rfl⟩) | (go_at_call 81; (with_reducible refine (height_any _ _ _).mono ?_); rintro e w' ⟨rfl, h17, d17, rfl⟩) | (go_at_call 80; (with_reducible refine (width_any _ _ _).mono ?_); rintro e w' ⟨rfl, h18, d18, rfl⟩))
      go_roundw
      case rel => exact ⟨k + 1, _, rfl, by omega, by go_num, by rw [take_map_snoc HX.out, sumI_snoc]; go_num, by rw [take_map_snoc HX.out, maxI_snoc]; go_num, HG.out.trans (by repeat' (first | (with_reducible exact Grows.refl _) | (with_reducible refine Grows.alloc ?_ _) | (with_reducible refine Grows.drew ?_) | (with_reducible refine Grows.ext ?_ _ _)))⟩
      case measure => simp [intOf]; omega
    · have e : k = ks.length := by omega
      subst e
      obtain ⟨c0, c1, c2, c3⟩ := (HB0.out.grows (HG1.out.trans hg)).four
      obtain ⟨d0, d1, f0, f1⟩ := (HB1.out.grows (HG1.out.trans hg)).two
      have e1 : (ks.map rowsL).take ks.length = ks.map rowsL := List.take_of_length_le (by simp)
      have e2 : (ks.map colsL).take ks.length = ks.map colsL := List.take_of_length_le (by simp)
      rw [e1, e2]
      clear hg e1 e2
      go_wp2_with fail
      refine ret_cell (t := 76) (n := w.heap.size + 1) (cs := #[.int .i64 (maxI (ks.map colsL)), .int .i64 (↑ks.length - 1 + sumI (ks.map rowsL))]) rfl rfl ?_ Try.underlying76 rfl (by kernel_rfl) rfl ?_
      · exact ((HB1.out.grows (HG1.out.trans HG.out)).set 0 _).set 1 _
      · exact ⟨ret_pair (by omega) (by omega), (((HG0.out.trans HG1.out).trans HG.out).setCell (by omega) _).setCell (by omega) _⟩
theorem minimum_any {S : Nat → Prop} (l : Lay) (hok : okTree l = true) (hn : (panesL l).length ≤ 1000) (vk vw : Value) (w : World) (h : LayAt S w l vk vw) : Calls Try.prog 39 #[.agg #[.int .i64 l.kind, .int .i64 l.pane, vk, vw]] w (Ret (.agg #[.int .i64 (colsL l), .int .i64 (rowsL l)]) w) := by
  revert hok hn vk vw w h
  refine Lay.ind (P := fun l => okTree l = true → (panesL l).length ≤ 1000 → ∀ (vk vw : Value) (w : World), LayAt S w l vk vw → Calls Try.prog 39 #[.agg #[.int .i64 l.kind, .int .i64 l.pane, vk, vw]] w (Ret (.agg #[.int .i64 (colsL l), .int .i64 (rowsL l)]) w)) ?_ l
  intro k p ks ws ih hok hn vk vw w h
  obtain ⟨h1, h2⟩ := okTree_iff.1 hok
  by_cases hk : k = 1
  · subst hk
    have e1 : colsL (.mk 1 p ks ws) = 2 := by unfold colsL; rw [minL_mk]; rfl
    have e2 : rowsL (.mk 1 p ks ws) = 1 := by unfold rowsL; rw [minL_mk]; rfl
    rw [e1, e2]
    obtain ⟨ka, kc, rfl, -⟩ := h.kids.shape rfl
    obtain ⟨wa, wc, rfl, -⟩ := h.ints.shape rfl
    exact min_leaf _ _ _ _ _ _ _ _
  · have hl : (panesL (.mk k p ks ws)).length = ((ks.map panesL).flatten).length := by rw [panesL_mk, if_neg hk]
    rw [hl] at hn
    have hlen : ∀ x ∈ ks, (panesL x).length ≤ 1000 := fun x hx => by have := len_mem hx; omega
    have hq : ∀ x ∈ ks, (0 ≤ colsL x ∧ colsL x ≤ 3000) ∧ (0 ≤ rowsL x ∧ rowsL x ≤ 3000) := fun x hx => by
      have := min_bounds x (h2 x hx)
      have := hlen x hx
      omega
    have hks := len_kids (ks := ks) h2
    have ih' : ∀ x ∈ ks, ∀ (vk vw : Value) (w : World), LayAt S w x vk vw → Calls Try.prog 39 #[.agg #[.int .i64 x.kind, .int .i64 x.pane, vk, vw]] w (Ret (.agg #[.int .i64 (colsL x), .int .i64 (rowsL x)]) w) := fun x hx => ih x hx (h2 x hx) (hlen x hx)
    have hw : ∃ a n c, vw = .slice a n c := by
      obtain ⟨wa, wc, rfl, -⟩ := h.ints.shape rfl
      exact ⟨_, _, _, rfl⟩
    obtain ⟨h3, -⟩ := validN_split h1 hk
    rcases h3 with h3 | h3
    · obtain rfl : k = 2 := h3
      have e1 : colsL (.mk 2 p ks ws) = sumI (ks.map colsL) + (ks.length - 1) := by unfold colsL; rw [minL_mk]; rfl
      have e2 : rowsL (.mk 2 p ks ws) = maxI (ks.map rowsL) := by unfold rowsL; rw [minL_mk]; rfl
      rw [e1, e2]
      exact min_split2 p ks vk vw w ih' hq (by omega) h.kids hw
    · obtain rfl : k = 3 := h3
      have e1 : colsL (.mk 3 p ks ws) = maxI (ks.map colsL) := by unfold colsL; rw [minL_mk]; rfl
      have e2 : rowsL (.mk 3 p ks ws) = sumI (ks.map rowsL) + (ks.length - 1) := by unfold rowsL; rw [minL_mk]; rfl
      rw [e1, e2]
      exact min_split3 p ks vk vw w ih' hq (by omega) h.kids hw
end Go.Proofs.Ytbobpgegkmcapaa

namespace Go.Proofs.Ytbobpgegkmcapaa
open Go.RowKit

theorem max_eq_if (a b : Int) : max a b = if a < b then b else a := by split <;> omega
theorem rmin_leaf (p : Int) (a0 a1 : Option Addr) (n0 c0 n1 c1 : Nat) (w : World) : Calls Try.prog 43 #[.agg #[.int .i64 1, .int .i64 p, .slice a0 n0 c0, .slice a1 n1 c1]] w (Ret (.agg #[.int .i64 2, .int .i64 1]) w) := by
  go_enter Try.func43, Try.ntmps43
  go_wp2
  go_returns
  exact ⟨rfl, (by repeat' (first | (with_reducible exact Grows.refl _) | (with_reducible refine Grows.alloc ?_ _) | (with_reducible refine Grows.drew ?_) | (with_reducible refine Grows.ext ?_ _ _)))⟩
set_option maxRecDepth 100000 in
set_option maxHeartbeats 2000000 in
theorem rmin_split2 {S : Nat → Prop} (p : Int) (ks : List Lay) (vk vw : Value) (w : World) (ih : ∀ x ∈ ks, ∀ (vk vw : Value) (w : World), LayAt S w x vk vw → Calls Try.prog 43 #[.agg #[.int .i64 x.kind, .int .i64 x.pane, vk, vw]] w (Ret (.agg #[.int .i64 (colsL x), .int .i64 (rowsL x)]) w))
    (hq : ∀ x ∈ ks, (0 ≤ colsL x ∧ colsL x ≤ 3000) ∧ (0 ≤ rowsL x ∧ rowsL x ≤ 3000)) (hn : ks.length ≤ 1000) (hk : KidsAt S w vk ks) (hw : ∃ a n c, vw = .slice a n c) :
    Calls Try.prog 43 #[.agg #[.int .i64 2, .int .i64 p, vk, vw]] w (Ret (.agg #[.int .i64 (sumI (ks.map colsL) + (ks.length - 1)), .int .i64 (maxI (ks.map rowsL))]) w) := by
  obtain ⟨a, cap, G, rfl, hcap, hmx, hin⟩ := hk.open_ rfl
  obtain ⟨wa, wn, wc, rfl⟩ := hw
  have Hin := Lib.hid hin
  have IH := Lib.hid ih
  have HQ := Lib.hid hq
  clear hin hk ih hq
  go_enter Try.func43, Try.ntmps43
  go_upto_region 1 with fail
  refine abs_worldM (fun W => Grows w W ∧ Blk W w.heap.size 25 #[.int .i64 2, .int .i64 p, .slice a ks.length cap, .slice wa wn wc] ∧ Blk W (w.heap.size + 1) 84 #[.int .i64 0, .int .i64 0]) (boxes2 _ _ _) ?_
  rintro W0 ⟨hg0, hb0, hb1⟩
  obtain ⟨c0, c1, c2, c3⟩ := hb0.four
  have hl0 := hb0.lt
  have hl1 := hb1.lt
  have HB1 := Lib.hid hb1
  have HB0 := Lib.hid hb0
  have HG0 := Lib.hid hg0
  clear hb0 hb1 hg0
  go_upto_block 0 with fail
  refine abs_worldM (fun W => Grows w W ∧ Blk W w.heap.size 25 #[.int .i64 2, .int .i64 p, .slice a ks.length cap, .slice wa wn wc] ∧ Blk W (w.heap.size + 1) 84 #[.int .i64 0, .int .i64 0] ∧ Blk W W0.heap.size 84 #[.int .i64 0, .int .i64 0]) ?_ ?_
  · exact ⟨HG0.out.trans (by repeat' (first | (with_reducible exact Grows.refl _) | (with_reducible refine Grows.alloc ?_ _) | (with_reducible refine Grows.drew ?_) | (with_reducible refine Grows.ext ?_ _ _))), HB0.out.grows (by repeat' (first | (with_reducible exact Grows.refl _) | (with_reducible refine Grows.alloc ?_ _) | (with_reducible refine Grows.drew ?_) | (with_reducible refine Grows.ext ?_ _ _))), HB1.out.grows (by repeat' (first | (with_reducible exact Grows.refl _) | (with_reducible refine Grows.alloc ?_ _) | (with_reducible refine Grows.drew ?_) | (with_reducible refine Grows.ext ?_ _ _))), Blk.new rfl⟩
  generalize W0.heap.size = B2 at *
  rintro W1 ⟨hg1, hb0, hb1, hb2⟩
  go_wp2
  go_loopw [4] (fun i wr => ∃ k : Nat, ∃ wv : World, wv = wr ∧ k ≤ ks.length ∧ i = .int .i64 k ∧ Grows w wv ∧ Blk wv w.heap.size 25 #[.int .i64 2, .int .i64 p, .slice a ks.length cap, .slice wa wn wc] ∧ Blk wv (w.heap.size + 1) 84 #[.int .i64 0, .int .i64 0] ∧ Blk wv B2 84 #[.int .i64 (sumI ((ks.map colsL).take k)), .int .i64 (maxI ((ks.map rowsL).take k))]) (fun i _ => ks.length - (intOf i).toNat)
  case atStart => exact ⟨0, _, rfl, Nat.zero_le _, rfl, hg1, hb0, hb1, hb2⟩
  case round =>
    clear hg1 hb0 hb1 hb2
    obtain ⟨k, wv, rfl, hk, rfl, hg, hb0, hb1, hb2⟩ := hrel
    have HG := Lib.hid hg
    have HV0 := Lib.hid hb0
    have HV1 := Lib.hid hb1
    have HV2 := Lib.hid hb2
    have hv0 := hb0.lt
    have hv1 := hb1.lt
    have hv2 := hb2.lt
    obtain ⟨c0, c1, c2, c3⟩ := hb0.four
    by_cases hlt : k < ks.length
    · obtain ⟨b, off, x, ka, kn, kc, xa, xn, xc, rfl, hb, -, hx, hmem, -, -, e0, e1, e2, e3, hL⟩ := (Hin.out.grows hg).at_ hlt
      have HL := Lib.hid hL
      have HX := Lib.hid hx
      have HM := Lib.hid hmem
      have hq := HQ.out x hmem
      have hs1 := take_sum (f := colsL) (fun x hx => (HQ.out x hx).1) hn k
      have hs2 := take_max (f := rowsL) (fun x hx => (HQ.out x hx).2) k
      clear hL hx hmem hg hb0 hb1 hb2
      go_upto_region 8 with (first | (go_at_call 43; (with_reducible refine (IH.out _ HM.out _ _ _ (HL.out.grows (by repeat' (first | (with_reducible exact Grows.refl _) | (with_reducible refine Grows.alloc ?_ _) | (with_reducible refine Grows.drew ?_) | (with_reducible refine Grows.ext ?_ _ _))))).mono ?_); rintro e w' ⟨rfl, h19, d19, rfl⟩))
      refine abs_worldM (fun W => Grows wv W ∧ Blk W (wv.heap.size + h19.size) 84 #[.int .i64 (colsL x), .int .i64 (rowsL x)]) ?_ ?_
      · exact ⟨(by repeat' (first | (with_reducible exact Grows.refl _) | (with_reducible refine Grows.alloc ?_ _) | (with_reducible refine Grows.drew ?_) | (with_reducible refine Grows.ext ?_ _ _))), Blk.new (by simp)⟩
      rintro W2 ⟨hg2, hb5⟩
      generalize hB5 : wv.heap.size + h19.size = B5 at *
      have hne5 : ¬ B2 = B5 := by omega
      have hne6 : ¬ B5 = B2 := by omega
      have hne7 : ¬ B2 = w.heap.size := by omega
      have hg := HG.out.trans hg2
      have hb0 := HV0.out.grows hg2
      have hb1 := HV1.out.grows hg2
      have hb2 := HV2.out.grows hg2
      obtain ⟨c0, c1, c2, c3⟩ := hb0.four
      obtain ⟨d0, d1, d2, d3⟩ := hb2.two
      obtain ⟨m0, m1, -, -⟩ := hb5.two
      have HG2 := Lib.hid hg
      have HV3 := Lib.hid (And.intro hb0 (And.intro hb1 hb2))
      clear hg hb0 hb1 hb2 hb5 hg2
      go_wp2_with fail
      go_roundw
      case rel =>
        refine ⟨k + 1, _, rfl, by omega, by go_num, (HG2.out.setCell (by omega) _).setCell (by omega) _, (HV3.out.1.other (by omega)).other (by omega), (HV3.out.2.1.other (by omega)).other (by omega), ?_⟩
        rw [take_map_snoc HX.out, take_map_snoc HX.out, sumI_snoc, maxI_snoc, max_eq_if]
        exact ((HV3.out.2.2.set 0 _).set 1 _)
      case measure => simp [intOf]; omega
    · have e : k = ks.length := by omega
      subst e
      obtain ⟨d0, d1, d2, d3⟩ := hb2.two
      obtain ⟨t0, t1, t2, t3⟩ := hb1.two
      have e1 : (ks.map colsL).take ks.length = ks.map colsL := List.take_of_length_le (by simp)
      have e2 : (ks.map rowsL).take ks.length = ks.map rowsL := List.take_of_length_le (by simp)
      have hs1 := take_sum (f := colsL) (fun x hx => (HQ.out x hx).1) hn ks.length
      rw [e1] at hs1
      rw [e1] at d0
      rw [e2] at d1
      have hne7 : ¬ B2 = w.heap.size + 1 := by omega
      have hne8 : ¬ w.heap.size + 1 = B2 := by omega
      clear hg e1 e2 hb0 hb1 hb2
      go_wp2_with fail
      refine ret_cell (t := 84) (n := w.heap.size + 1) (cs := #[.int .i64 (sumI (ks.map colsL) + ↑ks.length - 1), .int .i64 (maxI (ks.map rowsL))]) rfl rfl ?_ Try.underlying84 rfl (by kernel_rfl) rfl ?_
      · exact ((HV1.out.other (by omega)).set 0 _).set 1 _
      · exact ⟨ret_pair (by omega) (by omega), ((HG.out.setCell (by omega) _).setCell (by omega) _).setCell (by omega) _⟩
set_option maxRecDepth 100000 in
set_option maxHeartbeats 2000000 in
theorem rmin_split3 {S : Nat → Prop} (p : Int) (ks : List Lay) (vk vw : Value) (w : World) (ih : ∀ x ∈ ks, ∀ (vk vw : Value) (w : World), LayAt S w x vk vw → Calls Try.prog 43 #[.agg #[.int .i64 x.kind, .int .i64 x.pane, vk, vw]] w (Ret (.agg #[.int .i64 (colsL x), .int .i64 (rowsL x)]) w))
    (hq : ∀ x ∈ ks, (0 ≤ colsL x ∧ colsL x ≤ 3000) ∧ (0 ≤ rowsL x ∧ rowsL x ≤ 3000)) (hn : ks.length ≤ 1000) (hk : KidsAt S w vk ks) (hw : ∃ a n c, vw = .slice a n c) :
    Calls Try.prog 43 #[.agg #[.int .i64 3, .int .i64 p, vk, vw]] w (Ret (.agg #[.int .i64 (maxI (ks.map colsL)), .int .i64 (sumI (ks.map rowsL) + (ks.length - 1))]) w) := by
  obtain ⟨a, cap, G, rfl, hcap, hmx, hin⟩ := hk.open_ rfl
  obtain ⟨wa, wn, wc, rfl⟩ := hw
  have Hin := Lib.hid hin
  have IH := Lib.hid ih
  have HQ := Lib.hid hq
  clear hin hk ih hq
  go_enter Try.func43, Try.ntmps43
  go_upto_region 1 with fail
  refine abs_worldM (fun W => Grows w W ∧ Blk W w.heap.size 25 #[.int .i64 3, .int .i64 p, .slice a ks.length cap, .slice wa wn wc] ∧ Blk W (w.heap.size + 1) 84 #[.int .i64 0, .int .i64 0]) (boxes2 _ _ _) ?_
  rintro W0 ⟨hg0, hb0, hb1⟩
  obtain ⟨c0, c1, c2, c3⟩ := hb0.four
  have hl0 := hb0.lt
  have hl1 := hb1.lt
  have HB1 := Lib.hid hb1
  have HB0 := Lib.hid hb0
  have HG0 := Lib.hid hg0
  clear hb0 hb1 hg0
  go_upto_block 0 with fail
  refine abs_worldM (fun W => Grows w W ∧ Blk W w.heap.size 25 #[.int .i64 3, .int .i64 p, .slice a ks.length cap, .slice wa wn wc] ∧ Blk W (w.heap.size + 1) 84 #[.int .i64 0, .int .i64 0] ∧ Blk W W0.heap.size 84 #[.int .i64 0, .int .i64 0]) ?_ ?_
  · exact ⟨HG0.out.trans (by repeat' (first | (with_reducible exact Grows.refl _) | (with_reducible refine Grows.alloc ?_ _) | (with_reducible refine Grows.drew ?_) | (with_reducible refine Grows.ext ?_ _ _))), HB0.out.grows (by repeat' (first | (with_reducible exact Grows.refl _) | (with_reducible refine Grows.alloc ?_ _) | (with_reducible refine Grows.drew ?_) | (with_reducible refine Grows.ext ?_ _ _))), HB1.out.grows (by repeat' (first | (with_reducible exact Grows.refl _) | (with_reducible refine Grows.alloc ?_ _) | (with_reducible refine Grows.drew ?_) | (with_reducible refine Grows.ext ?_ _ _))), Blk.new rfl⟩
  generalize W0.heap.size = B2 at *
  rintro W1 ⟨hg1, hb0, hb1, hb2⟩
  go_wp2
  go_loopw [4] (fun i wr => ∃ k : Nat, ∃ wv : World, wv = wr ∧ k ≤ ks.length ∧ i = .int .i64 k ∧ Grows w wv ∧ Blk wv w.heap.size 25 #[.int .i64 3, .int .i64 p, .slice a ks.length cap, .slice wa wn wc] ∧ Blk wv (w.heap.size + 1) 84 #[.int .i64 0, .int .i64 0] ∧ Blk wv B2 84 #[.int .i64 (maxI ((ks.map colsL).take k)), .int .i64 (sumI ((ks.map rowsL).take k))]) (fun i _ => ks.length - (intOf i).toNat)
  case atStart => exact ⟨0, _, rfl, Nat.zero_le _, rfl, hg1, hb0, hb1, hb2⟩
  case round =>
    clear hg1 hb0 hb1 hb2
    obtain ⟨k, wv, rfl, hk, rfl, hg, hb0, hb1, hb2⟩ := hrel
    have HG := Lib.hid hg
    have HV0 := Lib.hid hb0
    have HV1 := Lib.hid hb1
    have HV2 := Lib.hid hb2
    have hv0 := hb0.lt
    have hv1 := hb1.lt
    have hv2 := hb2.lt
    obtain ⟨c0, c1, c2, c3⟩ := hb0.four
    by_cases hlt : k < ks.length
    · obtain ⟨b, off, x, ka, kn, kc, xa, xn, xc, rfl, hb, -, hx, hmem, -, -, e0, e1, e2, e3, hL⟩ := (Hin.out.grows hg).at_ hlt
      have HL := Lib.hid hL
      have HX := Lib.hid hx
      have HM := Lib.hid hmem
      have hq := HQ.out x hmem
      have hs1 := take_sum (f := rowsL) (fun x hx => (HQ.out x hx).2) hn k
      have hs2 := take_max (f := colsL) (fun x hx => (HQ.out x hx).1) k
      clear hL hx hmem hg hb0 hb1 hb2
      go_upto_region 8 with (first | (go_at_call 43; (with_reducible refine (IH.out _ HM.out _ _ _ (HL.out.grows (by repeat' (first | (with_reducible exact Grows.refl _) | (with_reducible refine Grows.alloc ?_ _) | (with_reducible refine Grows.drew ?_) | (with_reducible refine Grows.ext ?_ _ _))))).mono ?_); rintro e w' ⟨rfl, h20, d20, rfl⟩))
      refine abs_worldM (fun W => Grows wv W ∧ Blk W (wv.heap.size + h20.size) 84 #[.int .i64 (colsL x), .int .i64 (rowsL x)]) ?_ ?_
      · exact ⟨(by repeat' (first | (with_reducible exact Grows.refl _) | (with_reducible refine Grows.alloc ?_ _) | (with_reducible refine Grows.drew ?_) | (with_reducible refine Grows.ext ?_ _ _))), Blk.new (by simp)⟩
      rintro W2 ⟨hg2, hb5⟩
      generalize hB5 : wv.heap.size + h20.size = B5 at *
      have hne5 : ¬ B2 = B5 := by omega
      have hne6 : ¬ B5 = B2 := by omega
      have hne7 : ¬ B2 = w.heap.size := by omega
      have hg := HG.out.trans hg2
      have hb0 := HV0.out.grows hg2
      have hb1 := HV1.out.grows hg2
      have hb2 := HV2.out.grows hg2
      obtain ⟨c0, c1, c2, c3⟩ := hb0.four
      obtain ⟨d0, d1, d2, d3⟩ := hb2.two
      obtain ⟨m0, m1, -, -⟩ := hb5.two
      have HG2 := Lib.hid hg
      have HV3 := Lib.hid (And.intro hb0 (And.intro hb1 hb2))
      clear hg hb0 hb1 hb2 hb5 hg2
      go_wp2_with fail
      go_roundw
      case rel =>
        refine ⟨k + 1, _, rfl, by omega, by go_num, (HG2.out.setCell (by omega) _).setCell (by omega) _, (HV3.out.1.other (by omega)).other (by omega), (HV3.out.2.1.other (by omega)).other (by omega), ?_⟩
        rw [take_map_snoc HX.out, take_map_snoc HX.out, sumI_snoc, maxI_snoc, max_eq_if]
        exact ((HV3.out.2.2.set 1 _).set 0 _)
      case measure => simp [intOf]; omega
    · have e : k = ks.length := by omega
      subst e
      obtain ⟨d0, d1, d2, d3⟩ := hb2.two
      obtain ⟨t0, t1, t2, t3⟩ := hb1.two
      have e1 : (ks.map rowsL).take ks.length = ks.map rowsL := List.take_of_length_le (by simp)
      have e2 : (ks.map colsL).take ks.length = ks.map colsL := List.take_of_length_le (by simp)
      have hs1 := take_sum (f := rowsL) (fun x hx => (HQ.out x hx).2) hn ks.length
      rw [e1] at hs1
      rw [e2] at d0
      rw [e1] at d1
      have hne7 : ¬ B2 = w.heap.size + 1 := by omega
      have hne8 : ¬ w.heap.size + 1 = B2 := by omega
      clear hg e1 e2 hb0 hb1 hb2
      go_wp2_with fail
      refine ret_cell (t := 84) (n := w.heap.size + 1) (cs := #[.int .i64 (maxI (ks.map colsL)), .int .i64 (sumI (ks.map rowsL) + ↑ks.length - 1)]) rfl rfl ?_ Try.underlying84 rfl (by kernel_rfl) rfl ?_
      · exact ((HV1.out.other (by omega)).set 0 _).set 1 _
      · exact ⟨ret_pair (by omega) (by omega), ((HG.out.setCell (by omega) _).setCell (by omega) _).setCell (by omega) _⟩
theorem rminimum_any {S : Nat → Prop} (l : Lay) (hok : okTree l = true) (hn : (panesL l).length ≤ 1000) (vk vw : Value) (w : World) (h : LayAt S w l vk vw) : Calls Try.prog 43 #[.agg #[.int .i64 l.kind, .int .i64 l.pane, vk, vw]] w (Ret (.agg #[.int .i64 (colsL l), .int .i64 (rowsL l)]) w) := by
  revert hok hn vk vw w h
  refine Lay.ind (P := fun l => okTree l = true → (panesL l).length ≤ 1000 → ∀ (vk vw : Value) (w : World), LayAt S w l vk vw → Calls Try.prog 43 #[.agg #[.int .i64 l.kind, .int .i64 l.pane, vk, vw]] w (Ret (.agg #[.int .i64 (colsL l), .int .i64 (rowsL l)]) w)) ?_ l
  intro k p ks ws ih hok hn vk vw w h
  obtain ⟨h1, h2⟩ := okTree_iff.1 hok
  by_cases hk : k = 1
  · subst hk
    have e1 : colsL (.mk 1 p ks ws) = 2 := by unfold colsL; rw [minL_mk]; rfl
    have e2 : rowsL (.mk 1 p ks ws) = 1 := by unfold rowsL; rw [minL_mk]; rfl
    rw [e1, e2]
    obtain ⟨ka, kc, rfl, -⟩ := h.kids.shape rfl
    obtain ⟨wa, wc, rfl, -⟩ := h.ints.shape rfl
    exact rmin_leaf _ _ _ _ _ _ _ _
  · have hl : (panesL (.mk k p ks ws)).length = ((ks.map panesL).flatten).length := by rw [panesL_mk, if_neg hk]
    rw [hl] at hn
    have hlen : ∀ x ∈ ks, (panesL x).length ≤ 1000 := fun x hx => by have := len_mem hx; omega
    have hq : ∀ x ∈ ks, (0 ≤ colsL x ∧ colsL x ≤ 3000) ∧ (0 ≤ rowsL x ∧ rowsL x ≤ 3000) := fun x hx => by
      have := min_bounds x (h2 x hx)
      have := hlen x hx
      omega
    have hks := len_kids (ks := ks) h2
    have ih' : ∀ x ∈ ks, ∀ (vk vw : Value) (w : World), LayAt S w x vk vw → Calls Try.prog 43 #[.agg #[.int .i64 x.kind, .int .i64 x.pane, vk, vw]] w (Ret (.agg #[.int .i64 (colsL x), .int .i64 (rowsL x)]) w) := fun x hx => ih x hx (h2 x hx) (hlen x hx)
    have hw : ∃ a n c, vw = .slice a n c := by
      obtain ⟨wa, wc, rfl, -⟩ := h.ints.shape rfl
      exact ⟨_, _, _, rfl⟩
    obtain ⟨h3, -⟩ := validN_split h1 hk
    rcases h3 with h3 | h3
    · obtain rfl : k = 2 := h3
      have e1 : colsL (.mk 2 p ks ws) = sumI (ks.map colsL) + (ks.length - 1) := by unfold colsL; rw [minL_mk]; rfl
      have e2 : rowsL (.mk 2 p ks ws) = maxI (ks.map rowsL) := by unfold rowsL; rw [minL_mk]; rfl
      rw [e1, e2]
      exact rmin_split2 p ks vk vw w ih' hq (by omega) h.kids hw
    · obtain rfl : k = 3 := h3
      have e1 : colsL (.mk 3 p ks ws) = maxI (ks.map colsL) := by unfold colsL; rw [minL_mk]; rfl
      have e2 : rowsL (.mk 3 p ks ws) = sumI (ks.map rowsL) + (ks.length - 1) := by unfold rowsL; rw [minL_mk]; rfl
      rw [e1, e2]
      exact rmin_split3 p ks vk vw w ih' hq (by omega) h.kids hw
end Go.Proofs.Ytbobpgegkmcapaa

namespace Go.Proofs.Ytbobpgegkmcapaa
open Go.RowKit

attribute [local go_sem] Oper.semAt_some
/-- The depth of a node's kids. -/
def nx (d : Int) : Int := wrap64 (d + 1)
theorem nx_small (d : Int) (h0 : 0 ≤ d) (h1 : d ≤ 1000) : nx d = d + 1 := by
  unfold nx wrap64
  omega
/-- What a round keeps: what lay below n0, and the blocks of layouts, of yield and of the walk. -/
structure KpN (n0 : Nat) (W W' : World) : Prop where
  below : Below n0 W W'
  size : W.heap.size ≤ W'.heap.size
  typed : ∀ (k : Nat) (cs : Array Value) (t : TypeId) (fr : Nat × Nat), W.heap[k]? = some (Obj.cells cs t fr) → (t = 25 ∨ t = 109 ∨ t = 110) → W'.heap[k]? = some (Obj.cells cs t fr)
theorem KpN.refl (n0 : Nat) (W : World) : KpN n0 W W := ⟨Below.refl _ _, Nat.le_refl _, fun _ _ _ _ h _ => h⟩
theorem KpN.trans {n0 : Nat} {A B C : World} (h : KpN n0 A B) (k : KpN n0 B C) : KpN n0 A C := ⟨h.below.trans k.below, Nat.le_trans h.size k.size, fun i cs t fr e ht => k.typed i cs t fr (h.typed i cs t fr e ht) ht⟩
theorem KpN.grows {n0 : Nat} {W W' : World} (hn : n0 ≤ W.heap.size) (g : Grows W W') : KpN n0 W W' :=
  ⟨⟨g.below.os, g.below.tape, g.below.output, g.size, fun k hk => g.below.block k (Nat.lt_of_lt_of_le hk hn)⟩, g.size, fun k _cs _t _fr e _ => (g.below.block k (Array.getElem?_eq_some_iff.1 e).1).trans e⟩
theorem KpN.blk {n0 : Nat} {W W' : World} (k : KpN n0 W W') {n : Nat} {t : TypeId} {cs : Array Value} (h : Blk W n t cs) (ht : t = 25 ∨ t = 109 ∨ t = 110) : Blk W' n t cs := k.typed n cs t (0, 0) h ht
theorem KpN.same {n0 : Nat} {W W' : World} (k : KpN n0 W W') : Same (fun b => b < n0) W W' := ⟨k.size, fun b _ hb => k.below.block b hb⟩
theorem KpN.putObj {n0 : Nat} {w : World} (hn : n0 ≤ w.heap.size) (W : World) (l : Nat) (o o' : Obj) (hl : w.heap.size ≤ l) (h : W.heap[l]? = some o) (hc : o.isCells = false) (hw : o.isWalk = false) : KpN n0 W (W.putObj l o') := by
  refine ⟨belowK_b hn W l o o' hl h hc hw, by simp, fun k cs t fr e _ => ?_⟩
  · by_cases hk : k = l
    · subst hk
      rw [h] at e
      injection e with e
      subst e
      simp [Obj.isCells] at hc
    · exact (World.putObj_heap_other hk).trans e
theorem flat_at {α β : Type _} (f : α → List β) {ks : List α} {m : Nat} {x : α} (h : ks[m]? = some x) : (ks.map f).flatten = ((ks.take m).map f).flatten ++ f x ++ ((ks.drop (m + 1)).map f).flatten := by
  obtain ⟨hm, rfl⟩ := List.getElem?_eq_some_iff.1 h
  have e : (ks.map f).flatten = ((ks.take m ++ ks.drop m).map f).flatten := by rw [List.take_append_drop]
  rw [e, List.drop_eq_getElem_cons hm, List.map_append, List.flatten_append, List.map_cons, List.flatten_cons, List.append_assoc]
theorem abs_worldI {F : Fence} {n : Nat} {P : Program} {c : Code} {Q : Exit → Act → World → Prop} {a : Act} {w : World} (H : World → Prop) (hF : H w) (h : ∀ W, H W → c.wpIn F n P Q a W) : c.wpIn F n P Q a w := h w hF
theorem wpIn_scope {n : Nat} {P : Program} {c : Code} {Q : Exit → Act → World → Prop} {a : Act} {w : World} (h : c.wpIn Fence.wide n P (Exit.noGoto Q) a w) : (Code.scope c).wpIn Fence.wide n P Q a w := wpIn_wide.2 (wp_scope_straight (wpIn_wide.1 h))
theorem grownBy_of {w w' : World} (g : Grows w w') : w.grownBy w' none := ⟨g.below.os, g.below.tape, g.below.output, g.size, fun k hk _ => g.below.block k hk⟩
theorem roundIn_any {n m : Nat} {P : Program} {l : Nat} {f : FuncId} {tmps : Array Value} {assign body : Code} {w : World} {R : Ending → World → Prop} (h : RoundIn Fence.wide n P l f tmps assign body w R) : RoundIn Fence.wide m P l f tmps assign body w R := ⟨h.1, fun c cs _ => h.2 c cs (room_wide _)⟩
/-- A node among the layouts of w0, with its depth and its slices. -/
def NodeV (n0 : Nat) (w0 : World) : Type := { x : Int × Lay × Value × Value // LayAt (fun b => b < n0) w0 x.2.1 x.2.2.1 x.2.2.2 }
def NodeV.of {n0 : Nat} {w0 : World} (d : Int) (y : Lay) (vk vw : Value) (h : LayAt (fun b => b < n0) w0 y vk vw) : NodeV n0 w0 := ⟨(d, y, vk, vw), h⟩
def NodeV.node {n0 : Nat} {w0 : World} (x : NodeV n0 w0) : Int × Lay := (x.1.1, x.1.2.1)
def NodeV.encs {n0 : Nat} {w0 : World} (x : NodeV n0 w0) : Array Value := #[.int .i64 x.1.1, .agg #[.int .i64 x.1.2.1.kind, .int .i64 x.1.2.1.pane, x.1.2.2.1, x.1.2.2.2]]
def nodesOf {n0 : Nat} {w0 : World} (xs : List (NodeV n0 w0)) : List (Int × Lay) := xs.map NodeV.node
theorem nodesOf_append {n0 : Nat} {w0 : World} (xs ys : List (NodeV n0 w0)) : nodesOf (xs ++ ys) = nodesOf xs ++ nodesOf ys := by simp [nodesOf]
set_option maxRecDepth 100000 in
set_option maxHeartbeats 4000000 in
theorem nodes_in (l : Nat) (n0 N : Nat) (w0 : World) (J Jx : List (NodeV n0 w0) → World → Prop) (B0 : Nat) (hJ : AbidesFrom B0 J) (yb wb : Nat)
    (hY : ∀ (n : Nat) pre x W1, J pre W1 → pre.length < N → YieldAt Fence.wide n Try.prog l (NodeV.encs x) W1 fun e W' => (e = .returned (.bool true) ∧ J (pre ++ [x]) W' ∧ KpN n0 W1 W') ∨ (e = .returned (.bool false) ∧ Jx (pre ++ [x]) W'))
    (L : Lay) : ∀ (n : Nat) (vk vw : Value) (d : Int) (pre : List (NodeV n0 w0)) (W : World), LayAt (fun b => b < n0) w0 L vk vw → J pre W → Below n0 w0 W → n0 ≤ W.heap.size → Blk W yb 109 #[.func (.yield l) #[] #[]] → Blk W wb 110 #[.func (.func 73) #[] #[.pointer (some ⟨yb, 0, none⟩), .pointer (some ⟨wb, 0, none⟩)]] →
      pre.length + (nodesL nx L d).length ≤ N →
      CallsIn Fence.wide n Try.prog 73 #[.agg #[.int .i64 L.kind, .int .i64 L.pane, vk, vw], .int .i64 d, .pointer (some ⟨yb, 0, none⟩), .pointer (some ⟨wb, 0, none⟩)] W fun e W' =>
        (e = .returned (.bool true) ∧ ∃ xs : List (NodeV n0 w0), nodesOf xs = nodesL nx L d ∧ J (pre ++ xs) W' ∧ KpN n0 W W') ∨ (e = .returned (.bool false) ∧ ∃ (xs : List (NodeV n0 w0)) (suf : List (Int × Lay)), nodesOf xs ++ suf = nodesL nx L d ∧ Jx (pre ++ xs) W') := by
  induction L using Lay.ind with | h k p ks ws ih => ?_
  intro n vk vw d pre W hL hj hB hn0 hy hw hN
  obtain ⟨a, cap, G, rfl, hcap, hmx, hin⟩ := hL.kids.open_ rfl
  obtain ⟨wa, wc, rfl, -⟩ := hL.ints.shape rfl
  have Hin := Lib.hid hin
  have IH := Lib.hid ih
  have HW := Lib.hid hw
  have HY := Lib.hid hy
  have HB := Lib.hid hB
  have hc0 := hy.one.1
  have hly := hy.lt
  have hlw := hw.lt
  clear ih hin hw hy hB
  refine callsIn_of_wp Try.func73 rfl trivial ?_ rfl
  simp only [Try.ntmps73, List.size_toArray, List.length_cons, List.length_nil, Nat.reduceAdd, Nat.reduceSub, Array.replicate_succ, Array.replicate_zero, List.push_toArray, List.append_toArray, List.nil_append, List.cons_append]
  gi_wp2_with fail
  dsimp only [Lay.kids, Lay.ws, Lay.kind, Lay.pane] at hcap hmx Hin ⊢
  refine abs_worldI (fun V => Grows W V ∧ Blk V W.heap.size 25 #[.int .i64 k, .int .i64 p, .slice a ks.length cap, .slice wa ws.length wc]) ?_ ?_
  · exact boxes1 _ _
  rintro W1 ⟨hg1, hb1⟩
  obtain ⟨c0, c1, c2, c3⟩ := hb1.four
  have hy0 := (HY.out.grows hg1).one.1
  have HB1 := Lib.hid hb1
  have hj1 : J pre W1 := hJ _ _ _ none hj (grownBy_of hg1) (fun r e => by cases e)
  obtain ⟨fn, tmps, assign, body, hyl, hR⟩ := hY (n - 1) pre ⟨(d, .mk k p ks ws, .slice a ks.length cap, .slice wa ws.length wc), hL⟩ W1 hj1 (by rw [nodesL_mk, List.length_cons] at hN; omega)
  dsimp only [NodeV.encs, Lay.kind, Lay.pane] at hyl
  refine wpIn_scope ?_
  gi_wp2_with fail
  refine ⟨fun h => (by cases h), hR.mono ?_⟩
  rintro e W2 (⟨rfl, hj2, hk2⟩ | ⟨rfl, hx⟩)
  · have hb2 := hk2.blk hb1 (.inl rfl)
    obtain ⟨d0, d1, d2, d3⟩ := hb2.four
    gi_wp2_with fail
    refine wpIn_label ?_
    gi_wp2_with fail
    gi_loopw [17] (fun i wr => ∃ (m : Nat) (xs : List (NodeV n0 w0)), m ≤ ks.length ∧ i = .int .i64 m ∧ nodesOf xs = (d, .mk k p ks ws) :: ((ks.take m).map fun x => nodesL nx x (nx d)).flatten ∧ J (pre ++ xs) wr ∧ KpN n0 W wr) (fun i _ => ks.length - (intOf i).toNat)
    case atStart => exact ⟨0, [⟨(d, .mk k p ks ws, .slice a ks.length cap, .slice wa ws.length wc), hL⟩], Nat.zero_le _, rfl, rfl, hj2, (KpN.grows hn0 hg1).trans hk2⟩
    case round =>
      obtain ⟨m, xs, hm, rfl, hxs, hjx, hkx⟩ := hrel
      have HX := Lib.hid (And.intro hxs (And.intro hjx hkx))
      by_cases hlt : m < ks.length
      · have hbx := HB.out.trans hkx.below
        obtain ⟨b, off, x, ka, kn, kc, xa, xn, xc, rfl, hb, hbn, hx, hmem, -, -, e0, e1, e2, e3, hLx⟩ := Hin.out.at_ hlt
        have e0 := (hbx.cell (p := ⟨b, off + m * 4, none⟩) hbn).trans e0
        have e1 := (hbx.cell (p := ⟨b, off + m * 4 + 1, none⟩) hbn).trans e1
        have e2 := (hbx.cell (p := ⟨b, off + m * 4 + 2, none⟩) hbn).trans e2
        have e3 := (hbx.cell (p := ⟨b, off + m * 4 + 3, none⟩) hbn).trans e3
        have hwx := (hkx.blk HW.out (.inr (.inr rfl))).one.1
        have hwl := (hkx.blk HW.out (.inr (.inr rfl))).lt
        have hbw : b < wr.heap.size := Nat.lt_of_lt_of_le hbn (Nat.le_trans hn0 hkx.size)
        have HM := Lib.hid (And.intro hx hmem)
        have HLX := Lib.hid hLx
        have hka := KpN.grows (n0 := n0) (Nat.le_trans hn0 hkx.size) ((Grows.refl wr).alloc (.cells #[.int .i64 x.kind, .int .i64 x.pane, .slice ka kn kc, .slice xa xn xc] 25))
        have hja := hJ _ _ _ none hjx (grownBy_of ((Grows.refl wr).alloc (.cells #[.int .i64 x.kind, .int .i64 x.pane, .slice ka kn kc, .slice xa xn xc] 25))) (fun r e => by cases e)
        have hkb := hkx.trans hka
        have hlen : (pre ++ xs).length + (nodesL nx x (nx d)).length ≤ N := by
          have h1 := congrArg List.length hxs
          have h2 := congrArg List.length (flat_at (fun x => nodesL nx x (nx d)) hx)
          rw [nodesL_mk] at hN
          simp only [List.length_append, List.length_cons, nodesOf, List.length_map] at h1 h2 hN ⊢
          omega
        have HI := Lib.hid (IH.out x hmem (n - 1) _ _ (nx d) (pre ++ xs) _ hLx hja (HB.out.trans hkb.below) (Nat.le_trans hn0 hkb.size) (hkb.blk HY.out (.inr (.inl rfl))) (hkb.blk HW.out (.inr (.inr rfl))) hlen)
        clear hxs hjx hkx hx hmem hLx hja hkb hlen
        gi_wp2_with (refine ⟨trivial, fun h => (by cases h), ?_⟩; gi_at_call 73; refine HI.out.mono ?_; rintro e w2 (⟨rfl, ys, hys, hjy, hky⟩ | ⟨rfl, ys, suf, hys, hjy⟩))
        · gi_wp2_with fail
          refine ⟨⟨m + 1, xs ++ ys, by omega, by go_num, ?_, by rw [← List.append_assoc]; exact hjy, HX.out.2.2.trans (hka.trans hky)⟩, ?_⟩
          · rw [nodesOf_append, HX.out.1, hys, take_snoc HM.out.1]
            simp
          · simp [intOf]
            omega
        · gi_wp2_with fail
          rw [Exit.noGoto_ret]
          go_ret
          refine .inr ⟨rfl, xs ++ ys, suf ++ ((ks.drop (m + 1)).map fun x => nodesL nx x (nx d)).flatten, ?_, by rw [← List.append_assoc]; exact hjy⟩
          rw [nodesOf_append, HX.out.1, nodesL_mk, flat_at (fun x => nodesL nx x (nx d)) HM.out.1, ← hys]
          simp
      · have e : m = ks.length := by omega
        subst e
        clear hxs hjx hkx
        gi_wp2_with fail
        rw [Exit.noGoto_ret]
        go_ret
        exact .inl ⟨rfl, xs, by rw [HX.out.1, nodesL_mk, List.take_length], HX.out.2.1, HX.out.2.2⟩
  · gi_wp2_with fail
    rw [Exit.noGoto_ret]
    go_ret
    exact .inr ⟨rfl, [⟨(d, .mk k p ks ws, .slice a ks.length cap, .slice wa ws.length wc), hL⟩], (ks.map fun x => nodesL nx x (nx d)).flatten, by rw [nodesL_mk]; rfl, hx⟩
end Go.Proofs.Ytbobpgegkmcapaa

namespace Go.Proofs.Ytbobpgegkmcapaa
open Go.RowKit

attribute [local go_sem] Oper.semAt_some
theorem yield_any {m n : Nat} {P : Program} {l : Nat} {args : Array Value} {W : World} {R : Ending → World → Prop} (h : YieldAt Fence.wide m P l args W R) : YieldAt Fence.wide n P l args W R := by
  obtain ⟨fn, tmps, assign, body, h1, h2⟩ := h
  exact ⟨fn, tmps, assign, body, h1, roundIn_any h2⟩
theorem nodes_any (k p : Int) (a0 a1 : Option Addr) (n0 c0 n1 c1 : Nat) (w : World) : Calls Try.prog 45 #[.agg #[.int .i64 k, .int .i64 p, .slice a0 n0 c0, .slice a1 n1 c1]] w (fun e w' => e = .returned (.func (.func 72) #[] #[.pointer (some ⟨w.heap.size, 0, none⟩)]) ∧ w' = w.alloc (.cells #[.int .i64 k, .int .i64 p, .slice a0 n0 c0, .slice a1 n1 c1] 25)) := by
  go_enter Try.func45, Try.ntmps45
  go_wp2
  go_ret
  exact ⟨rfl, rfl⟩
theorem grownBy_trans {A B C : World} {row : Option Nat} (g : A.grownBy B none) (k : B.grownBy C row) : A.grownBy C row :=
  ⟨k.os.trans g.os, k.tape.trans g.tape, k.output.trans g.output, Nat.le_trans g.size k.size, fun i hi hr => (k.block i (Nat.lt_of_lt_of_le hi g.size) hr).trans (g.block i hi (fun e => by cases e))⟩
theorem grownBy_weak {A B : World} (row : Option Nat) (g : A.grownBy B none) : A.grownBy B row := ⟨g.os, g.tape, g.output, g.size, fun i hi _ => g.block i hi (fun e => by cases e)⟩
theorem panes_one {w0 : World} {pre : List (NodeV w0.heap.size w0)} {d : Int} {y : Lay} {vk vw : Value} (h : LayAt (fun b => b < w0.heap.size) w0 y vk vw) (hk : y.kind = 1) : panesN (nodesOf (pre ++ [NodeV.of d y vk vw h])) = panesN (nodesOf pre) ++ [y.pane] := by
  have e : nodesOf [NodeV.of d y vk vw h] = [(d, y)] := rfl
  rw [nodesOf_append, panesN_append, e]
  simp [panesN, hk]
theorem panes_none {w0 : World} {pre : List (NodeV w0.heap.size w0)} {d : Int} {y : Lay} {vk vw : Value} (h : LayAt (fun b => b < w0.heap.size) w0 y vk vw) (hk : ¬ y.kind = 1) : panesN (nodesOf (pre ++ [NodeV.of d y vk vw h])) = panesN (nodesOf pre) := by
  have e : nodesOf [NodeV.of d y vk vw h] = [(d, y)] := rfl
  rw [nodesOf_append, panesN_append, e]
  simp [panesN, hk]
set_option maxRecDepth 100000 in
set_option maxHeartbeats 2000000 in
theorem nodes_stops (n : Nat) (L : Lay) (vk vw : Value) (w0 w : World) (hL : LayAt (fun b => b < w0.heap.size) w0 L vk vw) (hB : Below w0.heap.size w0 w) (C : Nat) (hC : Blk w C 25 #[.int .i64 L.kind, .int .i64 L.pane, vk, vw]) :
    SeqStopsK Fence.wide n Try.prog 72 #[.pointer (some ⟨C, 0, none⟩)] (NodeV.encs (n0 := w0.heap.size) (w0 := w0)) (KpN w0.heap.size) (fun xs => nodesOf xs = nodesL nx L 0) (fun pre => ∃ suf, nodesOf pre ++ suf = nodesL nx L 0) (nodesL nx L 0).length w := by
  intro l J Jx W hW hJ hJx hY h0
  obtain ⟨ka, kc, e1, -⟩ := hL.kids.shape rfl
  obtain ⟨wa, wc, e2, -⟩ := hL.ints.shape rfl
  subst e1 e2
  have hC1 : Blk W C 25 _ := (hW.block C hC.lt).trans hC
  obtain ⟨c0, c1, c2, c3⟩ := hC1.four
  have hl := hC1.lt
  have hB1 : Below w0.heap.size w0 W := hB.trans (hW.mono hB.size)
  have hsz := hB1.size
  have HJ := Lib.hid hJ
  have HY := Lib.hid hY
  have H0 := Lib.hid h0
  have HB1 := Lib.hid hB1
  have HL := Lib.hid hL
  clear hJ hJx hY h0 hB hW hC hC1 hB1 hL
  generalize L.kids.length = kn at *
  generalize L.ws.length = wn at *
  obtain ⟨hg, hy, hw⟩ := boxes2 W (.cells #[.func (.yield l) #[] #[]] 109) (.cells #[.func (.func 73) #[] #[.pointer (some ⟨W.heap.size, 0, none⟩), .pointer (some ⟨W.heap.size + 1, 0, none⟩)]] 110)
  have hk := KpN.grows (n0 := w0.heap.size) hsz hg
  have HC := Lib.hid (nodes_in l w0.heap.size (nodesL nx L 0).length w0 J Jx W.heap.size HJ.out W.heap.size (W.heap.size + 1) (fun m pre x W1 hj hlt => yield_any (HY.out pre x W1 hj hlt)) L (n - 1) _ _ 0 [] _ HL.out
    (HJ.out _ _ _ none H0.out (grownBy_of hg) (fun r e => by cases e)) (HB1.out.trans hk.below) (Nat.le_trans hsz hk.size) hy hw (by simp))
  clear hg hy hw hk
  refine callsIn_of_wp Try.func72 rfl trivial ?_ rfl
  simp only [Try.ntmps72, List.size_toArray, List.length_cons, List.length_nil, Nat.reduceAdd, Nat.reduceSub, Array.replicate_succ, Array.replicate_zero, List.push_toArray, List.append_toArray, List.nil_append, List.cons_append]
  gi_wp2_with (refine ⟨trivial, fun h => (by cases h), ?_⟩; gi_at_call 73; refine HC.out.mono ?_; rintro e w2 (⟨rfl, ys, hys, hjy, hky⟩ | ⟨rfl, ys, suf, hys, hjy⟩))
  · go_end0
    exact ⟨⟨_, rfl⟩, .inl ⟨ys, hys, hjy⟩⟩
  · go_end0
    exact ⟨⟨_, rfl⟩, .inr ⟨ys, ⟨suf, hys⟩, hjy⟩⟩
end Go.Proofs.Ytbobpgegkmcapaa

namespace Go.Proofs.Ytbobpgegkmcapaa
open Go.RowKit

theorem vn_leaf (p : Int) (a wa : Option Addr) (kn cap wn wc : Nat) (w : World) : Calls Try.prog 46 #[.agg #[.int .i64 1, .int .i64 p, .slice a kn cap, .slice wa wn wc]] w (Ret (.bool (decide (0 ≤ p) && decide (p ≤ 999) && decide (kn = 0) && decide (wn = 0))) w) := by
  by_cases h0 : 0 ≤ p
  · by_cases h1 : p ≤ 999
    · by_cases h2 : kn = 0
      · subst h2
        by_cases h3 : wn = 0
        · subst h3
          go_enter Try.func46, Try.ntmps46
          go_wp2
          go_returns
          exact ⟨ret_bool (by simp [h0, h1]), (by repeat' (first | (with_reducible exact Grows.refl _) | (with_reducible refine Grows.alloc ?_ _) | (with_reducible refine Grows.drew ?_) | (with_reducible refine Grows.ext ?_ _ _)))⟩
        · have e3 : ((wn : Int) == 0) = false := by simp; omega
          go_enter Try.func46, Try.ntmps46
          go_wp2
          go_returns
          exact ⟨ret_bool (by simp [h3]), (by repeat' (first | (with_reducible exact Grows.refl _) | (with_reducible refine Grows.alloc ?_ _) | (with_reducible refine Grows.drew ?_) | (with_reducible refine Grows.ext ?_ _ _)))⟩
      · have e2 : ((kn : Int) == 0) = false := by simp; omega
        go_enter Try.func46, Try.ntmps46
        go_wp2
        go_returns
        exact ⟨ret_bool (by simp [h2]), (by repeat' (first | (with_reducible exact Grows.refl _) | (with_reducible refine Grows.alloc ?_ _) | (with_reducible refine Grows.drew ?_) | (with_reducible refine Grows.ext ?_ _ _)))⟩
    · have e1 : decide (p ≤ 999) = false := by simp; omega
      go_enter Try.func46, Try.ntmps46
      go_wp2
      go_returns
      exact ⟨ret_bool (by simp), (by repeat' (first | (with_reducible exact Grows.refl _) | (with_reducible refine Grows.alloc ?_ _) | (with_reducible refine Grows.drew ?_) | (with_reducible refine Grows.ext ?_ _ _)))⟩
  · have e0 : decide (0 ≤ p) = false := by simp; omega
    go_enter Try.func46, Try.ntmps46
    go_wp2
    go_returns
    exact ⟨ret_bool (by simp), (by repeat' (first | (with_reducible exact Grows.refl _) | (with_reducible refine Grows.alloc ?_ _) | (with_reducible refine Grows.drew ?_) | (with_reducible refine Grows.ext ?_ _ _)))⟩
theorem isSplit_t (k : Int) (h : k = 2 ∨ k = 3) (w : World) : Calls Try.prog 56 #[.int .i64 k] w (Ret (.bool true) w) := (isSplit_any k w).mono fun e w' h' => ⟨h'.1.trans (ret_bool (by rcases h with rfl | rfl <;> rfl)), h'.2⟩
theorem isSplit_f (k : Int) (h2 : ¬ k = 2) (h3 : ¬ k = 3) (w : World) : Calls Try.prog 56 #[.int .i64 k] w (Ret (.bool false) w) := (isSplit_any k w).mono fun e w' h' => ⟨h'.1.trans (ret_bool (by simp [h2, h3])), h'.2⟩
theorem vn_head (k p : Int) (a wa : Option Addr) (kn cap wn wc : Nat) (w : World) (hk : ¬ k = 1) (hbad : ¬ ((k = 2 ∨ k = 3) ∧ p = 0 ∧ 2 ≤ kn ∧ wn = kn)) : Calls Try.prog 46 #[.agg #[.int .i64 k, .int .i64 p, .slice a kn cap, .slice wa wn wc]] w (Ret (.bool false) w) := by
  have ek : (k == 1) = false := by simpa using hk
  by_cases h0 : k = 2 ∨ k = 3
  · have HS := Lib.hid fun W => isSplit_t k h0 W
    by_cases h1 : p = 0
    · subst h1
      by_cases h2 : 2 ≤ kn
      · have h3 : ¬ wn = kn := fun e => hbad ⟨h0, rfl, h2, e⟩
        have e2 : decide ((kn : Int) < 2) = false := by simp; omega
        have e3 : ((wn : Int) != (kn : Int)) = true := by simp; omega
        clear h0 hbad hk
        go_enter Try.func46, Try.ntmps46
        go_wp2_with (first | (go_at_call 56; (with_reducible refine (HS.out _).mono ?_); rintro e w' ⟨rfl, h21, d21, rfl⟩))
        go_returns
        exact ⟨rfl, (by repeat' (first | (with_reducible exact Grows.refl _) | (with_reducible refine Grows.alloc ?_ _) | (with_reducible refine Grows.drew ?_) | (with_reducible refine Grows.ext ?_ _ _)))⟩
      · have e2 : decide ((kn : Int) < 2) = true := by simp; omega
        clear h0 hbad hk
        go_enter Try.func46, Try.ntmps46
        go_wp2_with (first | (go_at_call 56; (with_reducible refine (HS.out _).mono ?_); rintro e w' ⟨rfl, h21, d21, rfl⟩))
        go_returns
        exact ⟨rfl, (by repeat' (first | (with_reducible exact Grows.refl _) | (with_reducible refine Grows.alloc ?_ _) | (with_reducible refine Grows.drew ?_) | (with_reducible refine Grows.ext ?_ _ _)))⟩
    · have e1 : (p != 0) = true := by simpa using h1
      clear h0 hbad hk
      go_enter Try.func46, Try.ntmps46
      go_wp2_with (first | (go_at_call 56; (with_reducible refine (HS.out _).mono ?_); rintro e w' ⟨rfl, h21, d21, rfl⟩))
      go_returns
      exact ⟨rfl, (by repeat' (first | (with_reducible exact Grows.refl _) | (with_reducible refine Grows.alloc ?_ _) | (with_reducible refine Grows.drew ?_) | (with_reducible refine Grows.ext ?_ _ _)))⟩
  · have HS := Lib.hid fun W => isSplit_f k (fun e => h0 (.inl e)) (fun e => h0 (.inr e)) W
    clear h0 hbad hk
    go_enter Try.func46, Try.ntmps46
    go_wp2_with (first | (go_at_call 56; (with_reducible refine (HS.out _).mono ?_); rintro e w' ⟨rfl, h21, d21, rfl⟩))
    go_returns
    exact ⟨rfl, (by repeat' (first | (with_reducible exact Grows.refl _) | (with_reducible refine Grows.alloc ?_ _) | (with_reducible refine Grows.drew ?_) | (with_reducible refine Grows.ext ?_ _ _)))⟩
theorem all_snoc {α : Type _} {l : List α} {i : Nat} {x : α} (q : α → Bool) (h : l[i]? = some x) : (l.take (i + 1)).all q = ((l.take i).all q && q x) := by
  rw [take_snoc h, List.all_append]
  simp
theorem all_out {α : Type _} {l : List α} {x : α} {q : α → Bool} (hx : x ∈ l) (h : q x = false) : l.all q = false := by
  rw [Bool.eq_false_iff]
  intro ha
  rw [List.all_eq_true.1 ha x hx] at h
  cases h
set_option maxRecDepth 100000 in
set_option maxHeartbeats 4000000 in
theorem vn_split {S : Nat → Prop} (k : Int) (ks : List Lay) (ws : List Int) (vk vw : Value) (w : World) (hk : k = 2 ∨ k = 3) (h2 : 2 ≤ ks.length) (hl : ws.length = ks.length) (hK : KidsAt S w vk ks) (hI : IntsAt S w vw ws) :
    Calls Try.prog 46 #[.agg #[.int .i64 k, .int .i64 0, vk, vw]] w (Ret (.bool (ks.all (fun x => decide (x.kind ≠ k)) && ws.all (fun x => decide (1 ≤ x) && decide (x ≤ 1000)))) w) := by
  obtain ⟨a, cap, G, rfl, hcap, hmx, hin⟩ := hK.open_ rfl
  obtain ⟨wa, wc, rfl, hwc, -, hiw⟩ := hI.open_ hl
  have ek : (k == 1) = false := by simp; omega
  have e2 : decide ((ks.length : Int) < 2) = false := by simp; omega
  have HS := Lib.hid fun W => isSplit_t k hk W
  have Hin := Lib.hid hin
  have Hiw := Lib.hid hiw
  clear hin hiw hK hI hk
  go_enter Try.func46, Try.ntmps46
  go_upto_region 1 with fail
  refine abs_worldM (fun W => Grows w W ∧ Blk W w.heap.size 25 #[.int .i64 k, .int .i64 0, .slice a ks.length cap, .slice wa ks.length wc]) ?_ ?_
  · exact boxes1 _ _
  rintro W0 ⟨hg0, hb0⟩
  obtain ⟨c0, c1, c2, c3⟩ := hb0.four
  have hl0 := hb0.lt
  have HB0 := Lib.hid hb0
  have HG0 := Lib.hid hg0
  clear hb0 hg0
  go_upto_block 0 with (first | (go_at_call 56; (with_reducible refine (HS.out _).mono ?_); rintro e w' ⟨rfl, h21, d21, rfl⟩))
  refine abs_worldM (fun W => Grows W0 W) (by repeat' (first | (with_reducible exact Grows.refl _) | (with_reducible refine Grows.alloc ?_ _) | (with_reducible refine Grows.drew ?_) | (with_reducible refine Grows.ext ?_ _ _))) ?_
  rintro W1 hg1
  have HG1 := Lib.hid hg1
  clear hg1
  go_wp2
  go_loopw [55] (fun i wr => ∃ m : Nat, ∃ wv : World, wv = wr ∧ m ≤ ks.length ∧ i = .int .i64 m ∧ (ks.take m).all (fun x => decide (x.kind ≠ k)) = true ∧ (ws.take m).all (fun x => decide (1 ≤ x) && decide (x ≤ 1000)) = true ∧ Grows W0 wv) (fun i _ => ks.length - (intOf i).toNat)
  case atStart => exact ⟨0, _, rfl, Nat.zero_le _, rfl, rfl, rfl, HG1.out⟩
  case round =>
    obtain ⟨m, wv, rfl, hm, rfl, ha1, ha2, hg⟩ := hrel
    have HG := Lib.hid hg
    have HA := Lib.hid (And.intro ha1 ha2)
    by_cases hlt : m < ks.length
    · obtain ⟨b, off, x, ka, kn, kc, xa, xn, xc, rfl, hb, -, hx, hmem, -, -, e0, e1, e4, e3, -⟩ := (Hin.out.grows (HG0.out.trans hg)).at_ hlt
      obtain ⟨b', off', y, rfl, hb', -, hy, hmy, f0⟩ := (Hiw.out.grows (HG0.out.trans hg)).at_ (i := m) (by omega)
      obtain ⟨c0, c1, c2, c3⟩ := (HB0.out.grows hg).four
      have hlv := (HB0.out.grows hg).lt
      have HX := Lib.hid (And.intro hx hmem)
      have HY := Lib.hid (And.intro hy hmy)
      clear ha1 ha2 hg hx hmem hy hmy
      by_cases q1 : x.kind = k
      · have g1 : (x.kind == k) = true := by simpa using q1
        have hr : (ks.all (fun x => decide (x.kind ≠ k)) && ws.all (fun x => decide (1 ≤ x) && decide (x ≤ 1000))) = false := by rw [all_out HX.out.2 (by simp [q1]), Bool.false_and]
        have HR := Lib.hid hr
        clear q1 hr
        go_wp2_with fail
        go_ret
        exact ⟨ret_bool HR.out.symm, HG0.out.trans (HG.out.trans (by repeat' (first | (with_reducible exact Grows.refl _) | (with_reducible refine Grows.alloc ?_ _) | (with_reducible refine Grows.drew ?_) | (with_reducible refine Grows.ext ?_ _ _))))⟩
      · have g1 : (x.kind == k) = false := by simpa using q1
        by_cases q2 : y < 1
        · have g2 : decide (y < 1) = true := by simpa using q2
          have hr : (ks.all (fun x => decide (x.kind ≠ k)) && ws.all (fun x => decide (1 ≤ x) && decide (x ≤ 1000))) = false := by rw [all_out HY.out.2 (by simp; omega), Bool.and_false]
          have HR := Lib.hid hr
          clear q1 q2 hr
          go_wp2_with fail
          go_ret
          exact ⟨ret_bool HR.out.symm, HG0.out.trans (HG.out.trans (by repeat' (first | (with_reducible exact Grows.refl _) | (with_reducible refine Grows.alloc ?_ _) | (with_reducible refine Grows.drew ?_) | (with_reducible refine Grows.ext ?_ _ _))))⟩
        · have g2 : decide (y < 1) = false := by simpa using q2
          by_cases q3 : 1000 < y
          · have g3 : decide (1000 < y) = true := by simpa using q3
            have hr : (ks.all (fun x => decide (x.kind ≠ k)) && ws.all (fun x => decide (1 ≤ x) && decide (x ≤ 1000))) = false := by rw [all_out HY.out.2 (by simp; omega), Bool.and_false]
            have HR := Lib.hid hr
            clear q1 q2 q3 hr
            go_wp2_with fail
            go_ret
            exact ⟨ret_bool HR.out.symm, HG0.out.trans (HG.out.trans (by repeat' (first | (with_reducible exact Grows.refl _) | (with_reducible refine Grows.alloc ?_ _) | (with_reducible refine Grows.drew ?_) | (with_reducible refine Grows.ext ?_ _ _))))⟩
          · have g3 : decide (1000 < y) = false := by simpa using q3
            have hr1 : (ks.take (m + 1)).all (fun x => decide (x.kind ≠ k)) = true := by rw [all_snoc _ HX.out.1, HA.out.1]; simpa using q1
            have hr2 : (ws.take (m + 1)).all (fun x => decide (1 ≤ x) && decide (x ≤ 1000)) = true := by rw [all_snoc _ HY.out.1, HA.out.2]; simp; omega
            have HR := Lib.hid (And.intro hr1 hr2)
            clear q1 q2 q3 hr1 hr2
            go_wp2_with fail
            go_roundw
            case rel => exact ⟨m + 1, _, rfl, by omega, by go_num, HR.out.1, HR.out.2, HG.out.trans (by repeat' (first | (with_reducible exact Grows.refl _) | (with_reducible refine Grows.alloc ?_ _) | (with_reducible refine Grows.drew ?_) | (with_reducible refine Grows.ext ?_ _ _)))⟩
            case measure => simp [intOf]; omega
    · have e : m = ks.length := by omega
      subst e
      have hr : (ks.all (fun x => decide (x.kind ≠ k)) && ws.all (fun x => decide (1 ≤ x) && decide (x ≤ 1000))) = true := by
        rw [List.take_length] at ha1
        rw [← hl, List.take_length] at ha2
        rw [ha1, ha2]
        rfl
      have HR := Lib.hid hr
      clear ha1 ha2 hg hr
      go_wp2_with fail
      go_ret
      exact ⟨ret_bool HR.out.symm, HG0.out.trans HG.out⟩
theorem validNode_any {S : Nat → Prop} (l : Lay) (vk vw : Value) (w : World) (h : LayAt S w l vk vw) : Calls Try.prog 46 #[.agg #[.int .i64 l.kind, .int .i64 l.pane, vk, vw]] w (Ret (.bool (validN l)) w) := by
  obtain ⟨k, p, ks, ws⟩ := l
  obtain ⟨ka, kc, e1, -⟩ := h.kids.shape rfl
  obtain ⟨wa, wc, e2, -⟩ := h.ints.shape rfl
  by_cases hk : k = 1
  · subst hk e1 e2
    have e : validN (.mk 1 p ks ws) = (decide (0 ≤ p) && decide (p ≤ 999) && decide (ks.length = 0) && decide (ws.length = 0)) := by
      rw [validN_mk, if_pos rfl]
      cases ks <;> cases ws <;> simp
    rw [e]
    exact vn_leaf p ka wa _ kc _ wc w
  · by_cases hh : (k = 2 ∨ k = 3) ∧ p = 0 ∧ 2 ≤ ks.length ∧ ws.length = ks.length
    · obtain ⟨h1, rfl, h2, h3⟩ := hh
      have e : validN (.mk k 0 ks ws) = (ks.all (fun x => decide (x.kind ≠ k)) && ws.all (fun x => decide (1 ≤ x) && decide (x ≤ 1000))) := by
        rw [validN_mk, if_neg hk]
        have q : (decide (k = 2) || decide (k = 3)) = true := by simpa using h1
        rw [q, decide_eq_true (rfl : (0 : Int) = 0), decide_eq_true h2, decide_eq_true h3]
        rfl
      rw [e]
      exact vn_split k ks ws vk vw w h1 h2 h3 h.kids h.ints
    · have e : validN (.mk k p ks ws) = false := by
        rw [validN_mk, if_neg hk, Bool.eq_false_iff]
        intro ht
        simp only [Bool.and_eq_true, Bool.or_eq_true, decide_eq_true_eq] at ht
        exact hh ⟨ht.1.1.1.1.1, ht.1.1.1.1.2, ht.1.1.1.2, ht.1.1.2⟩
      rw [e]
      subst e1 e2
      exact vn_head k p ka wa _ kc _ wc w hk hh
end Go.Proofs.Ytbobpgegkmcapaa

