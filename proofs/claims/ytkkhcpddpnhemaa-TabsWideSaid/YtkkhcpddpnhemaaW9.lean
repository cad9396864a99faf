/-
  Walks: goes.
-/
import Derived.Test.YtkkhcpddpnhemaaRows
import Derived.Test.YtkkhcpddpnhemaaLt
import Derived.Test.YtkkhcpddpnhemaaDefs
import Derived.Test.YtkkhcpddpnhemaaVis
import Derived.Test.YtkkhcpddpnhemaaW1
import Derived.Test.YtkkhcpddpnhemaaW8
import Derived.RangeFuncNested
import Derived.RangeFuncBound
import Derived.RangeFuncCalls
import Derived.RangeFuncLeaves
import Derived.RangeFuncBox
import Derived.Shelf.Abstract
import Derived.Shelf.RegionOpen
import Derived.WalkKit
import Derived.OwnWalkIn
import Derived.TacticsInMore
import Derived.LoopNIn
import Derived.LoopIn
import Derived.Maps.AppendAt
import Derived.Outline
import Derived.Lib.Hide
namespace Go.Proofs.Ytkkhcpddpnhemaa
open Go.RowKit Go.Shelf
attribute [local go_sem] Oper.semAt_some


theorem goes_world (w : World) (k : Int) (v3 v4 v5 : Value) : ∃ W0, ((((((w.alloc (.cells #[.int .i64 k] 3)).alloc (.cells #[.int .i64 0] 3)).alloc (.cells #[.int .i64 0] 29)).alloc (.cells #[v3] 23)).alloc (.cells #[v4] 3)).alloc (.cells #[v5] 3)) = W0 ∧
    W0.heap.size = w.heap.size + 1 + 1 + 1 + 1 + 1 + 1 ∧ (W0.cell? ⟨w.heap.size, 0, none⟩ = some (.int .i64 k) ∧ W0.frozen? ⟨w.heap.size, 0, none⟩ = false) ∧ (W0.cell? ⟨w.heap.size + 1, 0, none⟩ = some (.int .i64 0) ∧ W0.frozen? ⟨w.heap.size + 1, 0, none⟩ = false) ∧
    (W0.cell? ⟨w.heap.size + 1 + 1, 0, none⟩ = some (.int .i64 0) ∧ W0.frozen? ⟨w.heap.size + 1 + 1, 0, none⟩ = false) ∧ W0.cell? ⟨w.heap.size + 1 + 1 + 1, 0, none⟩ = some v3 ∧ W0.cell? ⟨w.heap.size + 1 + 1 + 1 + 1, 0, none⟩ = some v4 ∧ W0.cell? ⟨w.heap.size + 1 + 1 + 1 + 1 + 1, 0, none⟩ = some v5 ∧ Below w.heap.size w W0 := by
  refine ⟨_, rfl, by simp, ⟨?_, ?_⟩, ⟨?_, ?_⟩, ⟨?_, ?_⟩, ?_, ?_, ?_, (((((((Below.refl _ w).alloc (Nat.le_refl _) _).alloc (by simp) _).alloc (by simp; omega) _).alloc (by simp; omega) _).alloc (by simp; omega) _).alloc (by simp; omega) _)⟩
  all_goals go_simp

set_option maxRecDepth 100000 in
set_option maxHeartbeats 4000000 in
theorem goes_f (b off len cap col k edn : Nat) (ed : Int) (hed : ed = edn) (ll : List Bool) (hll : ll.length = len) (hok : 2 ≤ len ∧ len ≤ 80) (hcol : col < len) (hk : 1 ≤ k) (hk2 : k < 9223372036854775808) (w : World) (hb : b < w.heap.size) (hc : ∀ j, j < ll.length → w.cell? ⟨b, off + j, none⟩ = some (.bool (ll[j]?.getD false))) :
    Calls Try.prog 34 #[.slice (some ⟨b, off, none⟩) len cap, .int .i64 col, .int .i64 k, .int .i64 1, .int .i64 ed] w fun e W' => e = .returned (.tuple #[.int .i64 (gN (vis (fw (col + 1)) ll (len - (col + 1))) k col edn), .int .i64 0]) ∧ Below w.heap.size w W' := by
  have hw := wrong_any (some ⟨b, off, none⟩) len cap col
  rw [wErr_ok hok ⟨by omega, by omega⟩] at hw
  have Hw := Lib.hid fun W => (callsIn_wide (n := 4)).2 (hw W)
  have Hc := Lib.hid hc
  have Hll := Lib.hid hll
  have Hed := Lib.hid hed
  have hok2 := hok.2
  have e1 : decide ((k : Int) < 0) = false := by simp
  have e2 : ((k : Int) == 0) = false := by simp; omega
  clear hc hll hw hok hed
  refine (callsIn_wide (n := 5)).1 ?_
  refine callsIn_of_wp_marks Try.func34 rfl trivial ?_ rfl
  simp only [Try.ntmps34, List.size_toArray, List.length_cons, List.length_nil, Nat.reduceAdd, Nat.reduceSub, Array.replicate_succ, Array.replicate_zero, List.push_toArray, List.append_toArray, List.nil_append, List.cons_append]
  gi_wp2_with (first | (refine ⟨trivial, ?_⟩; gi_at_call 36; refine (Hw.out _).mono ?_; rintro e w' ⟨rfl, rfl⟩) | (refine ⟨trivial, ?_⟩; gi_at_call 39; refine (stops_in Fence.wide 4 trivial rfl _ _ _ _ _ _).mono ?_; rintro e w' ⟨rfl, rfl⟩))
  obtain ⟨W0, hW0, hsz, c0, c1, c2, c3, c4, c5, hB0⟩ := goes_world w k (.slice (some ⟨b, off, none⟩) len cap) (.int .i64 col) (.int .i64 1)
  rw [hW0]
  clear hW0
  refine wpIn_rangeFunc_ownF (F := Fence.wide) rfl (by omega) (gf := 42) (lb := #[.pointer (some ⟨w.heap.size + 1 + 1 + 1 + 1, 0, none⟩), .pointer (some ⟨w.heap.size + 1 + 1 + 1 + 1 + 1, 0, none⟩), .pointer (some ⟨w.heap.size + 1 + 1 + 1, 0, none⟩)]) rfl trivial (enters_of Try.func42 (by kernel_rfl) rfl)
    (fwd_stops Fence.wide 4 trivial rfl (by omega) (w.heap.size + 1 + 1 + 1 + 1) (w.heap.size + 1 + 1 + 1 + 1 + 1) (w.heap.size + 1 + 1 + 1) b off len cap (col + 1) ll Hll.out (by omega) (by omega) W0 (by rw [c4]; simp) c5 c3 (fun j hj => (hB0.cell (p := ⟨b, off + j, none⟩) hb).trans (Hc.out j hj)) (by omega) (by omega) (by omega) (by omega))
    keepB_t (keepB_b (by simp; omega)) (Below.refl _ _) (fun _ => rfl)
    (fun pre W => (W.cell? ⟨w.heap.size, 0, none⟩ = some (.int .i64 ((k : Int) - pre.length)) ∧ W.frozen? ⟨w.heap.size, 0, none⟩ = false ∧ pre.length < k ∧ W.cell? ⟨w.heap.size + 1, 0, none⟩ = some (.int .i64 0) ∧ W.frozen? ⟨w.heap.size + 1, 0, none⟩ = false ∧ W.cell? ⟨w.heap.size + 1 + 1, 0, none⟩ = some (.int .i64 0) ∧ W.frozen? ⟨w.heap.size + 1 + 1, 0, none⟩ = false) ∧ Below w.heap.size w W)
    (fun c pre W => (c = .ret ∧ (∃ p0 x, pre = p0 ++ [x] ∧ p0.length + 1 = k ∧ W.cell? ⟨w.heap.size + 1, 0, none⟩ = some (.int .i64 (x : Nat))) ∧ W.cell? ⟨w.heap.size + 1 + 1, 0, none⟩ = some (.int .i64 0)) ∧ Below w.heap.size w W)
    (OwnFrom.and (Own.from (fun s A B row hs hg hr => ⟨cell_kept hs.1 hg hr, (frozen_kept hs.1 hg hr).trans hs.2.1, hs.2.2.1, cell_kept hs.2.2.2.1 hg hr, (frozen_kept hs.2.2.2.1 hg hr).trans hs.2.2.2.2.1, cell_kept hs.2.2.2.2.2.1 hg hr, (frozen_kept hs.2.2.2.2.2.1 hg hr).trans hs.2.2.2.2.2.2⟩) _) (ownFrom_below (Nat.le_refl _) (by omega)))
    (fun c => OwnFrom.and (Own.from (fun s A B row hs hg hr => ⟨hs.1, (by obtain ⟨p0, x, h1, h2, h3⟩ := hs.2.1; exact ⟨p0, x, h1, h2, cell_kept h3 hg hr⟩), cell_kept hs.2.2 hg hr⟩) _) (ownFrom_below (Nat.le_refl _) (by omega)))
    ⟨⟨by simpa using c0.1, c0.2, by simp; omega, c1.1, c1.2, c2.1, c2.2⟩, hB0⟩
    (fun x => { tmps := #[.slice (some ⟨b, off, none⟩) len cap, .int .i64 col, .int .i64 k, .int .i64 1, .int .i64 ed, undef, undef, .pointer (some ⟨w.heap.size, 0, none⟩), undef, undef, .pointer (some ⟨w.heap.size + 1, 0, none⟩), .pointer (some ⟨w.heap.size + 1 + 1, 0, none⟩), .int .i64 0, .int .i64 (x : Nat), .slice (some ⟨b, off, none⟩) len cap, .int .i64 col, .int .i64 0, .int .i64 0, .bool false, undef, .int .i64 k, .bool false, .int .i64 k, .bool false, undef, .slice (some ⟨b, off, none⟩) len cap, .int .i64 col, .int .i64 1, .func (.func 42) #[] #[.pointer (some ⟨w.heap.size + 1 + 1 + 1 + 1, 0, none⟩), .pointer (some ⟨w.heap.size + 1 + 1 + 1 + 1 + 1, 0, none⟩), .pointer (some ⟨w.heap.size + 1 + 1 + 1, 0, none⟩)], .int .i64 (x : Nat), undef, undef, undef, undef, undef, undef], defers := [] }) ?assign ?body ?done ?stop
  case assign =>
    intro l x W K hK
    gi_wp2
    exact hK
  case body =>
    rintro l pre x W ⟨⟨h1, h2, h3, h4, h5, h6, h7⟩, hB⟩ _
    clear c0 c1 c2 c3 c4 c5
    by_cases hkp : k = pre.length + 1
    · have e6 : ((k : Int) - pre.length - 1 == 0) = true := by simp; omega
      have HK := Lib.hid hkp
      clear hkp
      gi_wp2
      exact ⟨((KeepsOthers.setCell _ _ _).trans (KeepsOthers.setCell _ _ _)).trans (KeepsOthers.setCell _ _ _), ⟨rfl, ⟨pre, x, rfl, HK.out.symm, by go_simp⟩, by go_simp⟩, ((hB.setCell (p := ⟨w.heap.size, 0, none⟩) (by simp) _).setCell (p := ⟨w.heap.size + 1, 0, none⟩) (by simp) _).setCell (p := ⟨w.heap.size + 1 + 1, 0, none⟩) (by simp; omega) _⟩
    · have e6 : ((k : Int) - pre.length - 1 == 0) = false := by simp; omega
      have hlt : pre.length + 1 < k := by omega
      clear hkp
      gi_wp2
      exact ⟨KeepsOthers.setCell _ _ _, keepB_set (by simp; omega) _, ⟨by rw [List.length_append, List.length_singleton, show (k : Int) - ((pre.length + 1 : Nat) : Int) = (k : Int) - pre.length - 1 from by omega]; go_simp, by go_simp, by rw [List.length_append, List.length_singleton]; exact hlt, by go_simp, by go_simp, by go_simp, by go_simp⟩, hB.setCell (p := ⟨w.heap.size, 0, none⟩) (by simp) _⟩
  case done =>
    rintro D ys W hD rfl ⟨⟨h1, h2, h3, h4, h5, h6, h7⟩, hB⟩ hK
    have HE := Lib.hid (gN_end (col := col) (e := edn) h3)
    clear c0 c1 c2 c3 c4 c5
    gi_wp2
    have hB' := (hB.setCell (p := ⟨w.heap.size + 1, 0, none⟩) (by simp) (.int .i64 ed)).setCell (p := ⟨w.heap.size + 1 + 1, 0, none⟩) (by simp; omega) (.int .i64 0)
    have hK' := ((KeepsOthers.setCell W ⟨w.heap.size + 1, 0, none⟩ (.int .i64 ed)).trans (KeepsOthers.setCell _ ⟨w.heap.size + 1 + 1, 0, none⟩ (.int .i64 0))).same D _ hK rfl
    have q1 : ((W.setCell ⟨w.heap.size + 1, 0, none⟩ (.int .i64 ed)).setCell ⟨w.heap.size + 1 + 1, 0, none⟩ (.int .i64 0)).cell? ⟨w.heap.size + 1, 0, none⟩ = some (.int .i64 ed) := by go_simp
    have q2 : ((W.setCell ⟨w.heap.size + 1, 0, none⟩ (.int .i64 ed)).setCell ⟨w.heap.size + 1 + 1, 0, none⟩ (.int .i64 0)).cell? ⟨w.heap.size + 1 + 1, 0, none⟩ = some (.int .i64 0) := by go_simp
    refine ⟨by simp, .inl ⟨_, _, rfl, run_takeDeferred hK', ?_⟩⟩
    have q3 := cell_kept q1 (grownBy_putObj' _ D (.deferred none)) (fun r e => by cases e; exact ⟨_, hK', rfl⟩)
    have q4 := cell_kept q2 (grownBy_putObj' _ D (.deferred none)) (fun r e => by cases e; exact ⟨_, hK', rfl⟩)
    refine ⟨.tuple #[.int .i64 ed, .int .i64 0], ?_, by rw [HE.out, Hed.out], hB'.trans (belowK_b (w := w) (Nat.le_refl _) _ D _ _ (by omega) hK' rfl rfl)⟩
    simp [results, Try.f34, go_sem, q3, q4]
  case stop =>
    rintro D c pre W hD ⟨t, hpre⟩ ⟨⟨rfl, ⟨p0, x, rfl, hp, hc1⟩, hc2⟩, hB⟩ hK
    have HE := Lib.hid (gN_hit (n := k) (col := col) (e := edn) (k := x) (show (vis (fw (col + 1)) ll (len - (col + 1)))[p0.length]? = some x by rw [hpre]; simp) hp.symm)
    clear c0 c1 c2 c3 c4 c5
    gi_wp2
    refine ⟨by simp, .inl ⟨_, _, rfl, run_takeDeferred hK, ?_⟩⟩
    have q3 := cell_kept hc1 (grownBy_putObj' _ D (.deferred none)) (fun r e => by cases e; exact ⟨_, hK, rfl⟩)
    have q4 := cell_kept hc2 (grownBy_putObj' _ D (.deferred none)) (fun r e => by cases e; exact ⟨_, hK, rfl⟩)
    refine ⟨.tuple #[.int .i64 x, .int .i64 0], ?_, by rw [HE.out], hB.trans (belowK_b (w := w) (Nat.le_refl _) _ D _ _ (by omega) hK rfl rfl)⟩
    simp [results, Try.f34, go_sem, q3, q4]

set_option maxRecDepth 100000 in
set_option maxHeartbeats 4000000 in
theorem goes_b (b off len cap col k edn : Nat) (ed : Int) (hed : ed = edn) (ll : List Bool) (hll : ll.length = len) (hok : 2 ≤ len ∧ len ≤ 80) (hcol : col < len) (hk : 1 ≤ k) (hk2 : k < 9223372036854775808) (w : World) (hb : b < w.heap.size) (hc : ∀ j, j < ll.length → w.cell? ⟨b, off + j, none⟩ = some (.bool (ll[j]?.getD false))) :
    Calls Try.prog 34 #[.slice (some ⟨b, off, none⟩) len cap, .int .i64 col, .int .i64 k, .int .i64 (-1), .int .i64 ed] w fun e W' => e = .returned (.tuple #[.int .i64 (gN (vis (bwd col) ll col) k col edn), .int .i64 0]) ∧ Below w.heap.size w W' := by
  have hw := wrong_any (some ⟨b, off, none⟩) len cap col
  rw [wErr_ok hok ⟨by omega, by omega⟩] at hw
  have Hw := Lib.hid fun W => (callsIn_wide (n := 4)).2 (hw W)
  have Hc := Lib.hid hc
  have Hll := Lib.hid hll
  have Hed := Lib.hid hed
  have hok2 := hok.2
  have e1 : decide ((k : Int) < 0) = false := by simp
  have e2 : ((k : Int) == 0) = false := by simp; omega
  clear hc hll hw hok hed
  refine (callsIn_wide (n := 5)).1 ?_
  refine callsIn_of_wp_marks Try.func34 rfl trivial ?_ rfl
  simp only [Try.ntmps34, List.size_toArray, List.length_cons, List.length_nil, Nat.reduceAdd, Nat.reduceSub, Array.replicate_succ, Array.replicate_zero, List.push_toArray, List.append_toArray, List.nil_append, List.cons_append]
  gi_wp2_with (first | (refine ⟨trivial, ?_⟩; gi_at_call 36; refine (Hw.out _).mono ?_; rintro e w' ⟨rfl, rfl⟩) | (refine ⟨trivial, ?_⟩; gi_at_call 39; refine (stops_in Fence.wide 4 trivial rfl _ _ _ _ _ _).mono ?_; rintro e w' ⟨rfl, rfl⟩))
  obtain ⟨W0, hW0, hsz, c0, c1, c2, c3, c4, c5, hB0⟩ := goes_world w k (.slice (some ⟨b, off, none⟩) len cap) (.int .i64 col) (.int .i64 (-1))
  rw [hW0]
  clear hW0
  refine wpIn_rangeFunc_ownF (F := Fence.wide) rfl (by omega) (gf := 42) (lb := #[.pointer (some ⟨w.heap.size + 1 + 1 + 1 + 1, 0, none⟩), .pointer (some ⟨w.heap.size + 1 + 1 + 1 + 1 + 1, 0, none⟩), .pointer (some ⟨w.heap.size + 1 + 1 + 1, 0, none⟩)]) rfl trivial (enters_of Try.func42 (by kernel_rfl) rfl)
    (bwd_stops Fence.wide 4 trivial rfl (by omega) (w.heap.size + 1 + 1 + 1 + 1) (w.heap.size + 1 + 1 + 1 + 1 + 1) (w.heap.size + 1 + 1 + 1) b off len cap col ll Hll.out (by omega) (by omega) W0 c4 c5 c3 (fun j hj => (hB0.cell (p := ⟨b, off + j, none⟩) hb).trans (Hc.out j hj)) (by omega) (by omega) (by omega) (by omega))
    keepB_t (keepB_b (by simp; omega)) (Below.refl _ _) (fun _ => rfl)
    (fun pre W => (W.cell? ⟨w.heap.size, 0, none⟩ = some (.int .i64 ((k : Int) - pre.length)) ∧ W.frozen? ⟨w.heap.size, 0, none⟩ = false ∧ pre.length < k ∧ W.cell? ⟨w.heap.size + 1, 0, none⟩ = some (.int .i64 0) ∧ W.frozen? ⟨w.heap.size + 1, 0, none⟩ = false ∧ W.cell? ⟨w.heap.size + 1 + 1, 0, none⟩ = some (.int .i64 0) ∧ W.frozen? ⟨w.heap.size + 1 + 1, 0, none⟩ = false) ∧ Below w.heap.size w W)
    (fun c pre W => (c = .ret ∧ (∃ p0 x, pre = p0 ++ [x] ∧ p0.length + 1 = k ∧ W.cell? ⟨w.heap.size + 1, 0, none⟩ = some (.int .i64 (x : Nat))) ∧ W.cell? ⟨w.heap.size + 1 + 1, 0, none⟩ = some (.int .i64 0)) ∧ Below w.heap.size w W)
    (OwnFrom.and (Own.from (fun s A B row hs hg hr => ⟨cell_kept hs.1 hg hr, (frozen_kept hs.1 hg hr).trans hs.2.1, hs.2.2.1, cell_kept hs.2.2.2.1 hg hr, (frozen_kept hs.2.2.2.1 hg hr).trans hs.2.2.2.2.1, cell_kept hs.2.2.2.2.2.1 hg hr, (frozen_kept hs.2.2.2.2.2.1 hg hr).trans hs.2.2.2.2.2.2⟩) _) (ownFrom_below (Nat.le_refl _) (by omega)))
    (fun c => OwnFrom.and (Own.from (fun s A B row hs hg hr => ⟨hs.1, (by obtain ⟨p0, x, h1, h2, h3⟩ := hs.2.1; exact ⟨p0, x, h1, h2, cell_kept h3 hg hr⟩), cell_kept hs.2.2 hg hr⟩) _) (ownFrom_below (Nat.le_refl _) (by omega)))
    ⟨⟨by simpa using c0.1, c0.2, by simp; omega, c1.1, c1.2, c2.1, c2.2⟩, hB0⟩
    (fun x => { tmps := #[.slice (some ⟨b, off, none⟩) len cap, .int .i64 col, .int .i64 k, .int .i64 (-1), .int .i64 ed, undef, undef, .pointer (some ⟨w.heap.size, 0, none⟩), undef, undef, .pointer (some ⟨w.heap.size + 1, 0, none⟩), .pointer (some ⟨w.heap.size + 1 + 1, 0, none⟩), .int .i64 0, .int .i64 (x : Nat), .slice (some ⟨b, off, none⟩) len cap, .int .i64 col, .int .i64 0, .int .i64 0, .bool false, undef, .int .i64 k, .bool false, .int .i64 k, .bool false, undef, .slice (some ⟨b, off, none⟩) len cap, .int .i64 col, .int .i64 (-1), .func (.func 42) #[] #[.pointer (some ⟨w.heap.size + 1 + 1 + 1 + 1, 0, none⟩), .pointer (some ⟨w.heap.size + 1 + 1 + 1 + 1 + 1, 0, none⟩), .pointer (some ⟨w.heap.size + 1 + 1 + 1, 0, none⟩)], .int .i64 (x : Nat), undef, undef, undef, undef, undef, undef], defers := [] }) ?assign ?body ?done ?stop
  case assign =>
    intro l x W K hK
    gi_wp2
    exact hK
  case body =>
    rintro l pre x W ⟨⟨h1, h2, h3, h4, h5, h6, h7⟩, hB⟩ _
    clear c0 c1 c2 c3 c4 c5
    by_cases hkp : k = pre.length + 1
    · have e6 : ((k : Int) - pre.length - 1 == 0) = true := by simp; omega
      have HK := Lib.hid hkp
      clear hkp
      gi_wp2
      exact ⟨((KeepsOthers.setCell _ _ _).trans (KeepsOthers.setCell _ _ _)).trans (KeepsOthers.setCell _ _ _), ⟨rfl, ⟨pre, x, rfl, HK.out.symm, by go_simp⟩, by go_simp⟩, ((hB.setCell (p := ⟨w.heap.size, 0, none⟩) (by simp) _).setCell (p := ⟨w.heap.size + 1, 0, none⟩) (by simp) _).setCell (p := ⟨w.heap.size + 1 + 1, 0, none⟩) (by simp; omega) _⟩
    · have e6 : ((k : Int) - pre.length - 1 == 0) = false := by simp; omega
      have hlt : pre.length + 1 < k := by omega
      clear hkp
      gi_wp2
      exact ⟨KeepsOthers.setCell _ _ _, keepB_set (by simp; omega) _, ⟨by rw [List.length_append, List.length_singleton, show (k : Int) - ((pre.length + 1 : Nat) : Int) = (k : Int) - pre.length - 1 from by omega]; go_simp, by go_simp, by rw [List.length_append, List.length_singleton]; exact hlt, by go_simp, by go_simp, by go_simp, by go_simp⟩, hB.setCell (p := ⟨w.heap.size, 0, none⟩) (by simp) _⟩
  case done =>
    rintro D ys W hD rfl ⟨⟨h1, h2, h3, h4, h5, h6, h7⟩, hB⟩ hK
    have HE := Lib.hid (gN_end (col := col) (e := edn) h3)
    clear c0 c1 c2 c3 c4 c5
    gi_wp2
    have hB' := (hB.setCell (p := ⟨w.heap.size + 1, 0, none⟩) (by simp) (.int .i64 ed)).setCell (p := ⟨w.heap.size + 1 + 1, 0, none⟩) (by simp; omega) (.int .i64 0)
    have hK' := ((KeepsOthers.setCell W ⟨w.heap.size + 1, 0, none⟩ (.int .i64 ed)).trans (KeepsOthers.setCell _ ⟨w.heap.size + 1 + 1, 0, none⟩ (.int .i64 0))).same D _ hK rfl
    have q1 : ((W.setCell ⟨w.heap.size + 1, 0, none⟩ (.int .i64 ed)).setCell ⟨w.heap.size + 1 + 1, 0, none⟩ (.int .i64 0)).cell? ⟨w.heap.size + 1, 0, none⟩ = some (.int .i64 ed) := by go_simp
    have q2 : ((W.setCell ⟨w.heap.size + 1, 0, none⟩ (.int .i64 ed)).setCell ⟨w.heap.size + 1 + 1, 0, none⟩ (.int .i64 0)).cell? ⟨w.heap.size + 1 + 1, 0, none⟩ = some (.int .i64 0) := by go_simp
    refine ⟨by simp, .inl ⟨_, _, rfl, run_takeDeferred hK', ?_⟩⟩
    have q3 := cell_kept q1 (grownBy_putObj' _ D (.deferred none)) (fun r e => by cases e; exact ⟨_, hK', rfl⟩)
    have q4 := cell_kept q2 (grownBy_putObj' _ D (.deferred none)) (fun r e => by cases e; exact ⟨_, hK', rfl⟩)
    refine ⟨.tuple #[.int .i64 ed, .int .i64 0], ?_, by rw [HE.out, Hed.out], hB'.trans (belowK_b (w := w) (Nat.le_refl _) _ D _ _ (by omega) hK' rfl rfl)⟩
    simp [results, Try.f34, go_sem, q3, q4]
  case stop =>
    rintro D c pre W hD ⟨t, hpre⟩ ⟨⟨rfl, ⟨p0, x, rfl, hp, hc1⟩, hc2⟩, hB⟩ hK
    have HE := Lib.hid (gN_hit (n := k) (col := col) (e := edn) (k := x) (show (vis (bwd col) ll col)[p0.length]? = some x by rw [hpre]; simp) hp.symm)
    clear c0 c1 c2 c3 c4 c5
    gi_wp2
    refine ⟨by simp, .inl ⟨_, _, rfl, run_takeDeferred hK, ?_⟩⟩
    have q3 := cell_kept hc1 (grownBy_putObj' _ D (.deferred none)) (fun r e => by cases e; exact ⟨_, hK, rfl⟩)
    have q4 := cell_kept hc2 (grownBy_putObj' _ D (.deferred none)) (fun r e => by cases e; exact ⟨_, hK, rfl⟩)
    refine ⟨.tuple #[.int .i64 x, .int .i64 0], ?_, by rw [HE.out], hB.trans (belowK_b (w := w) (Nat.le_refl _) _ D _ _ (by omega) hK rfl rfl)⟩
    simp [results, Try.f34, go_sem, q3, q4]
end Go.Proofs.Ytkkhcpddpnhemaa
