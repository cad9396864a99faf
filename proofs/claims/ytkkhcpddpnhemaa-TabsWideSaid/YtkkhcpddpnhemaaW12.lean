/-
  Walks: the stops of the program.
-/
import Derived.Test.YtkkhcpddpnhemaaRows
import Derived.Test.YtkkhcpddpnhemaaLt
import Derived.Test.YtkkhcpddpnhemaaDefs
import Derived.Test.YtkkhcpddpnhemaaVis
import Derived.Test.YtkkhcpddpnhemaaOwn
import Derived.Test.YtkkhcpddpnhemaaW1
import Derived.Test.YtkkhcpddpnhemaaW8
import Derived.RangeFuncNested
import Derived.RangeFuncBound
import Derived.RangeFuncCalls
import Derived.RangeFuncLeaves
import Derived.RangeFuncBox
import Derived.Shelf.Abstract
import Derived.Shelf.RegionOpen
import Derived.WalkKit
import Derived.OwnWalkIn
import Derived.TacticsInMore
import Derived.LoopNIn
import Derived.LoopIn
import Derived.Maps.AppendAt
import Derived.Outline
import Derived.Lib.Hide
namespace Go.Proofs.Ytkkhcpddpnhemaa
open Go.RowKit Go.Shelf
attribute [local go_sem] Oper.semAt_some


theorem info3 : (Try.prog.info? 3).map (fun i => (i.zero, i.size, i.bytes)) = some (some (.int .i64 0), 1, 8) := by kernel_rfl
/-- Numbers as the cells hold them. -/
def nums (l : List Nat) : List Value := l.map fun x => .int .i64 (x : Nat)
def toI (l : List Nat) : List Int := l.map Int.ofNat
theorem toI_length (l : List Nat) : (toI l).length = l.length := by simp [toI]
theorem nums_snoc (l : List Nat) (x : Nat) : nums (l ++ [x]) = nums l ++ [.int .i64 (x : Nat)] := by simp [nums]
theorem nums_length (l : List Nat) : (nums l).length = l.length := by simp [nums]
set_option maxRecDepth 100000 in
set_option maxHeartbeats 4000000 in
theorem appendSeq_any (Bc Bs Bt b : Nat) (S Sp : List Nat → Prop) (N : Nat) (hN : N ≤ 1000) (w : World) (k1 : Bc < w.heap.size) (k2 : Bs < w.heap.size) (k3 : Bt < w.heap.size) (k4 : b < w.heap.size)
    (hseq : ∀ W, Below w.heap.size w W → SeqStopsK Fence.wide 3 Try.prog 42 #[.pointer (some ⟨Bc, 0, none⟩), .pointer (some ⟨Bs, 0, none⟩), .pointer (some ⟨Bt, 0, none⟩)] (fun x : Nat => #[Value.int .i64 x]) (KeepB [b, Bt, Bc, Bs]) S Sp N W) :
    Calls Try.prog 41 #[.slice none 0 0, .func (.func 42) #[] #[.pointer (some ⟨Bc, 0, none⟩), .pointer (some ⟨Bs, 0, none⟩), .pointer (some ⟨Bt, 0, none⟩)]] w fun e W' => ∃ v ys, e = .returned v ∧ S ys ∧ W'.ownsRow w.heap.size 3 1 v ys.length (nums ys) ∧ (v = .slice none 0 0 ↔ ys = []) ∧ Below w.heap.size w W' := by
  obtain ⟨i0, hi, hz0, hz1, hz2⟩ := info_parts info3
  refine (callsIn_wide (n := 4)).1 ?_
  refine callsIn_of_wp_marks Try.func41 rfl trivial ?_ rfl
  simp only [Try.ntmps41, List.size_toArray, List.length_cons, List.length_nil, Nat.reduceAdd, Nat.reduceSub, Array.replicate_succ, Array.replicate_zero, List.push_toArray, List.append_toArray, List.nil_append, List.cons_append]
  gi_wp2
  have bO := Boxed.new w 49 (.slice none 0 0)
  have hB0 : Below w.heap.size w (w.alloc (.cells #[.slice none 0 0] 49)) := (Below.refl _ w).alloc (Nat.le_refl _) _
  refine wpIn_rangeFunc_ownG (F := Fence.wide) rfl (by omega) (gf := 42) (lb := #[.pointer (some ⟨Bc, 0, none⟩), .pointer (some ⟨Bs, 0, none⟩), .pointer (some ⟨Bt, 0, none⟩)]) rfl trivial (enters_of Try.func42 (by kernel_rfl) rfl)
    (hseq _ hB0) keepB_t (keepB_b (by simp; omega)) (Below.refl _ _) (fun _ => rfl)
    (fun pre W => (∃ v, Boxed W w.heap.size 49 v ∧ W.ownsRow w.heap.size 3 1 v pre.length (nums pre) ∧ (v = .slice none 0 0 ↔ pre = [])) ∧ Below w.heap.size w W)
    (fun _ _ _ => False)
    (OwnFrom.and (Own.from (holdsRow_own w.heap.size w.heap.size 49 3 1 (fun pre => pre.length) (fun pre => nums pre) (fun pre v => v = .slice none 0 0 ↔ pre = [])) _) (ownFrom_below (Nat.le_refl _) (by simp)))
    (fun _ _ _ _ _ hs _ _ => hs)
    ⟨⟨_, bO, World.ownsRow_nil _ _ _ _, by simp⟩, hB0⟩
    (fun x => { tmps := #[.slice none 0 0, .func (.func 42) #[] #[.pointer (some ⟨Bc, 0, none⟩), .pointer (some ⟨Bs, 0, none⟩), .pointer (some ⟨Bt, 0, none⟩)], .pointer (some ⟨w.heap.size, 0, none⟩), undef, .slice none 0 0, .int .i64 (x : Nat), .func (.func 42) #[] #[.pointer (some ⟨Bc, 0, none⟩), .pointer (some ⟨Bs, 0, none⟩), .pointer (some ⟨Bt, 0, none⟩)], .int .i64 (x : Nat), undef, undef, undef, undef, undef], defers := [] }) ?assign ?body ?done ?stop
  case assign =>
    intro l x W K hK
    gi_wp2
    exact hK
  case body =>
    rintro l pre x W ⟨⟨v, hv, hrow, hnil⟩, hB⟩ hlt
    have hc := hv.cell
    gi_wp2_with (gi_at_builtin; refine wpListIn_append_own _ rfl _ _ 49 rfl w.heap.size 3 i0 (.int .i64 0) 1 8 Try.underlying49 hi hz0 hz1 hz2 rfl (by decide) _ _ _ rfl (hrow.alloc _) ⟨W.heap.size, 0, none⟩ 1 1 [.int .i64 (x : Nat)] rfl rfl (cell_one_new _ _ _) (by simp [Value.oneCell']) (by unfold maxLen; omega) (by omega) (by have := hB.size; simp; omega) ?_; intro v' w1 hown' hgrow _; obtain ⟨g', cap', rfl⟩ := ownsRow_succ hown'; obtain ⟨hv1, hv2, hr2, hk2, hb2⟩ := hv.appended (by decide) hrow hB.size (Nat.le_refl _) hown' hgrow; have hc1 := hv1.cell; have hf1 := hv1.frozen)
    exact ⟨hk2.from _, (fun q hq => hb2.block q (by simp at hq; omega)), ⟨_, hv2, by rw [nums_snoc]; simpa using hr2, by simp⟩, hB.trans hb2⟩
  case done =>
    rintro D ys W hD hS ⟨⟨v, hv, hrow, hnil⟩, hB⟩ hK
    have hc := hv.cell
    gi_wp2
    refine ⟨by simp, .inl ⟨_, _, rfl, run_takeDeferred hK, ?_⟩⟩
    exact ⟨_, results_tmp rfl _ _ _, v, ys, rfl, hS, ownsRow_putObj hrow _ hK rfl, hnil, hB.trans (belowK_b (w := w) (Nat.le_refl _) W D _ _ (by simp at hD; omega) hK rfl rfl)⟩
  case stop =>
    rintro D c pre W _ _ h _
    exact h.elim

set_option maxRecDepth 100000 in
set_option maxHeartbeats 1000000 in
theorem none_in (F : Fence) (n : Nat) (h42 : F.fn 42) (hro : F.round = none) (l Bc Bs Bt cap : Nat) (a : Option Addr) (J Jx : List Nat → World → Prop)
    (W : World) (hBc : W.cell? ⟨Bc, 0, none⟩ = some (.int .i64 (-1))) (hBs : W.cell? ⟨Bs, 0, none⟩ = some (.int .i64 1)) (hBt : W.cell? ⟨Bt, 0, none⟩ = some (.slice a 0 cap)) (h0 : J [] W) :
    CallsIn F n Try.prog 42 #[.func (.yield l) #[] #[], .pointer (some ⟨Bc, 0, none⟩), .pointer (some ⟨Bs, 0, none⟩), .pointer (some ⟨Bt, 0, none⟩)] W fun e W' => (∃ v, e = .returned v) ∧
      ((∃ ys, ys = [] ∧ J ys W') ∨ (∃ pre, (∃ t, [] = pre ++ t) ∧ Jx pre W')) := by
  refine callsIn_of_wp Try.func42 rfl h42 ?_ hro
  simp only [Try.ntmps42, List.size_toArray, List.length_cons, List.length_nil, Nat.reduceAdd, Nat.reduceSub, Array.replicate_succ, Array.replicate_zero, List.push_toArray, List.append_toArray, List.nil_append, List.cons_append]
  gi_wp2
  gi_loopw [5] (fun i wr => i = .int .i64 0 ∧ wr = W) (fun _ _ => 0)
  case atStart => exact ⟨rfl, rfl⟩
  case round =>
    obtain ⟨rfl, rfl⟩ := hrel
    gi_wp2
    go_end0
    first
      | exact ⟨⟨_, rfl⟩, .inl ⟨_, rfl, h0⟩⟩
      | exact ⟨⟨_, rfl⟩, .inl h0⟩
theorem none_stops (F : Fence) (n : Nat) (h42 : F.fn 42) (hro : F.round = none) (Bc Bs Bt b cap : Nat) (a : Option Addr) (w : World)
    (hBc : w.cell? ⟨Bc, 0, none⟩ = some (.int .i64 (-1))) (hBs : w.cell? ⟨Bs, 0, none⟩ = some (.int .i64 1)) (hBt : w.cell? ⟨Bt, 0, none⟩ = some (.slice a 0 cap))
    (k1 : Bc < w.heap.size) (k2 : Bs < w.heap.size) (k3 : Bt < w.heap.size) :
    SeqStopsK F n Try.prog 42 #[.pointer (some ⟨Bc, 0, none⟩), .pointer (some ⟨Bs, 0, none⟩), .pointer (some ⟨Bt, 0, none⟩)] (fun x : Nat => #[Value.int .i64 x]) (KeepB [b, Bt, Bc, Bs]) (fun ys => ys = []) (fun pre => ∃ t, [] = pre ++ t) 1 w :=
  fun l J Jx W hW _ _ _ h0 => none_in F n h42 hro l Bc Bs Bt cap a J Jx W ((hW.cell (p := ⟨Bc, 0, none⟩) k1).trans hBc) ((hW.cell (p := ⟨Bs, 0, none⟩) k2).trans hBs) ((hW.cell (p := ⟨Bt, 0, none⟩) k3).trans hBt) h0
theorem collect_any (Bc Bs Bt b : Nat) (S Sp : List Nat → Prop) (N : Nat) (hN : N ≤ 1000) (w : World) (k1 : Bc < w.heap.size) (k2 : Bs < w.heap.size) (k3 : Bt < w.heap.size) (k4 : b < w.heap.size)
    (hseq : ∀ W, Below w.heap.size w W → SeqStopsK Fence.wide 3 Try.prog 42 #[.pointer (some ⟨Bc, 0, none⟩), .pointer (some ⟨Bs, 0, none⟩), .pointer (some ⟨Bt, 0, none⟩)] (fun x : Nat => #[Value.int .i64 x]) (KeepB [b, Bt, Bc, Bs]) S Sp N W) :
    Calls Try.prog 38 #[.func (.func 42) #[] #[.pointer (some ⟨Bc, 0, none⟩), .pointer (some ⟨Bs, 0, none⟩), .pointer (some ⟨Bt, 0, none⟩)]] w fun e W' => ∃ v ys, e = .returned v ∧ S ys ∧ W'.ownsRow w.heap.size 3 1 v ys.length (nums ys) ∧ (v = .slice none 0 0 ↔ ys = []) ∧ Below w.heap.size w W' := by
  have Ha := Lib.hid (appendSeq_any Bc Bs Bt b S Sp N hN w k1 k2 k3 k4 hseq)
  clear hseq
  go_enter Try.func38, Try.ntmps38
  go_wp2_with (go_at_call 41; refine Ha.out.mono ?_; rintro e w' ⟨v, ys, rfl, hS, ho, hn, hb⟩)
  go_ret
  exact ⟨v, ys, rfl, hS, ho, hn, hb⟩
theorem stops_any (a : Option Addr) (len cap : Nat) (col st : Int) (w : World) :
    Calls Try.prog 39 #[.slice a len cap, .int .i64 col, .int .i64 st] w fun e w' => e = .returned (.func (.func 42) #[] #[.pointer (some ⟨w.heap.size + 1, 0, none⟩), .pointer (some ⟨w.heap.size + 1 + 1, 0, none⟩), .pointer (some ⟨w.heap.size, 0, none⟩)]) ∧
      ((w.alloc (.cells #[.slice a len cap] 23)).alloc (.cells #[.int .i64 col] 3)).alloc (.cells #[.int .i64 st] 3) = w' :=
  callsIn_wide.1 ((stops_in Fence.wide 5 trivial rfl a len cap col st w).mono fun _ _ h => ⟨h.1, h.2.symm⟩)
theorem is_of_row {base : Nat} {w : World} {v : Value} {ys : List Nat} (h : w.ownsRow base 3 1 v ys.length (nums ys)) : ∃ a cap, v = .slice a ys.length cap ∧ Is w a (toI ys) := by
  obtain ⟨hl, ⟨rfl, h0⟩ | ⟨g, cap, cur, rfl, hb, hh, hc, hm, hs, ht⟩⟩ := h
  · obtain rfl : ys = [] := List.eq_nil_of_length_eq_zero h0
    exact ⟨none, 0, rfl, .inl rfl⟩
  · refine ⟨_, cap, rfl, .inr ⟨g, 0, rfl, (Array.getElem?_eq_some_iff.1 hh).1, fun j hj => ?_⟩⟩
    rw [Nat.zero_add, cell_of_row w g j cur 3 (0, 0) hh]
    have hj' : j < ys.length := by rwa [toI_length] at hj
    have := congrArg (fun (l : List Value) => l[j]?) ht
    simp only [List.getElem?_take] at this
    rw [if_pos (by omega)] at this
    rw [← Array.getElem?_toList, this]
    simp [nums, toI, hj']
theorem three_world (w : World) (v0 v1 v2 : Value) : ∃ W0, ((w.alloc (.cells #[v0] 23)).alloc (.cells #[v1] 3)).alloc (.cells #[v2] 3) = W0 ∧ W0.heap.size = w.heap.size + 1 + 1 + 1 ∧ W0.cell? ⟨w.heap.size, 0, none⟩ = some v0 ∧ W0.cell? ⟨w.heap.size + 1, 0, none⟩ = some v1 ∧ W0.cell? ⟨w.heap.size + 1 + 1, 0, none⟩ = some v2 ∧ Below w.heap.size w W0 := by
  refine ⟨_, rfl, by simp, ?_, ?_, ?_, ((((Below.refl _ w).alloc (Nat.le_refl _) _).alloc (by simp) _).alloc (by simp; omega) _)⟩
  all_goals go_simp
set_option maxHeartbeats 1000000 in
/-- What Stops hands back. -/
theorem pstops_any (a : Option Addr) (n cap : Nat) (l : List Bool) (hl : l.length = n) (hn : n ≤ 90) (w : World) (ha : Bs w a l) :
    Calls Try.prog 31 #[.slice a n cap] w fun e W' => ∃ b c, e = .returned (.slice b (vis (fw 0) l n).length c) ∧ Is W' b (toI (vis (fw 0) l n)) ∧ Grows w W' := by
  have Hc : Hid (∀ W0, W0.heap.size = w.heap.size + 1 + 1 + 1 → W0.cell? ⟨w.heap.size, 0, none⟩ = some (.slice a n cap) → W0.cell? ⟨w.heap.size + 1, 0, none⟩ = some (.int .i64 (-1)) → W0.cell? ⟨w.heap.size + 1 + 1, 0, none⟩ = some (.int .i64 1) → Below w.heap.size w W0 →
      Calls Try.prog 38 #[.func (.func 42) #[] #[.pointer (some ⟨w.heap.size + 1, 0, none⟩), .pointer (some ⟨w.heap.size + 1 + 1, 0, none⟩), .pointer (some ⟨w.heap.size, 0, none⟩)]] W0 fun e W' => ∃ b c, e = .returned (.slice b (vis (fw 0) l n).length c) ∧ Is W' b (toI (vis (fw 0) l n)) ∧ Below w.heap.size w W') := Lib.hid fun W0 hsz c0 c1 c2 hB0 => by
    by_cases h0 : n = 0
    · subst h0
      have hs : ∀ W, Below W0.heap.size W0 W → _ := fun W hW => none_stops Fence.wide 3 trivial rfl (w.heap.size + 1) (w.heap.size + 1 + 1) w.heap.size w.heap.size cap a W ((hW.cell (p := ⟨w.heap.size + 1, 0, none⟩) (by simp only; omega)).trans c1) ((hW.cell (p := ⟨w.heap.size + 1 + 1, 0, none⟩) (by simp only; omega)).trans c2) ((hW.cell (p := ⟨w.heap.size, 0, none⟩) (by simp only; omega)).trans c0) (by have := hW.size; omega) (by have := hW.size; omega) (by have := hW.size; omega)
      refine (collect_any (w.heap.size + 1) (w.heap.size + 1 + 1) w.heap.size w.heap.size _ _ 1 (by omega) W0 (by omega) (by omega) (by omega) (by omega) hs).mono ?_
      rintro e W' ⟨v, ys, rfl, rfl, ho, _, hb⟩
      obtain ⟨b, c, rfl, hI⟩ := is_of_row ho
      exact ⟨b, c, rfl, hI, hB0.trans (hb.mono (by omega))⟩
    · obtain ⟨b, off, rfl, hbl, hca⟩ := ha.at (k := 0) (by omega)
      have hs : ∀ W, Below W0.heap.size W0 W → _ := fun W hW => fwd_stops Fence.wide 3 trivial rfl (by omega) (w.heap.size + 1) (w.heap.size + 1 + 1) w.heap.size b off n cap 0 l hl (by omega) (by omega) W ((hW.cell (p := ⟨w.heap.size + 1, 0, none⟩) (by simp only; omega)).trans c1) ((hW.cell (p := ⟨w.heap.size + 1 + 1, 0, none⟩) (by simp only; omega)).trans c2) ((hW.cell (p := ⟨w.heap.size, 0, none⟩) (by simp only; omega)).trans c0) (fun j hj => ((hB0.trans (hW.mono (by omega))).cell (p := ⟨b, off + j, none⟩) hbl).trans (hca j hj)) (by have := hW.size; omega) (by have := hW.size; omega) (by have := hW.size; omega) (by have := hW.size; omega)
      refine (collect_any (w.heap.size + 1) (w.heap.size + 1 + 1) w.heap.size b _ _ (n + 1) (by omega) W0 (by omega) (by omega) (by omega) (by omega) hs).mono ?_
      rintro e W' ⟨v, ys, rfl, rfl, ho, _, hb⟩
      obtain ⟨b', c, rfl, hI⟩ := is_of_row ho
      exact ⟨b', c, rfl, hI, hB0.trans (hb.mono (by omega))⟩
  obtain ⟨W0, hW0, hsz, c0, c1, c2, hB0⟩ := three_world w (.slice a n cap) (.int .i64 (-1)) (.int .i64 1)
  have Hs : Hid (Calls Try.prog 39 #[.slice a n cap, .int .i64 (-1), .int .i64 1] w fun e w' => e = .returned (.func (.func 42) #[] #[.pointer (some ⟨w.heap.size + 1, 0, none⟩), .pointer (some ⟨w.heap.size + 1 + 1, 0, none⟩), .pointer (some ⟨w.heap.size, 0, none⟩)]) ∧ W0 = w') := Lib.hid (by rw [← hW0]; exact stops_any a n cap (-1) 1 w)
  have HC := Lib.hid (Hc.out W0 hsz c0 c1 c2 hB0)
  clear hW0 hsz c0 c1 c2 hB0 Hc ha hl
  go_enter Try.func31, Try.ntmps31
  go_wp2_with (first | (go_at_call 39; refine Hs.out.mono ?_; rintro e w' ⟨rfl, rfl⟩) | (go_at_call 38; refine HC.out.mono ?_; rintro e w' ⟨b, c, rfl, hI, hb⟩))
  go_ret
  exact ⟨b, c, rfl, hI, Grows.of_below hb⟩
end Go.Proofs.Ytkkhcpddpnhemaa
