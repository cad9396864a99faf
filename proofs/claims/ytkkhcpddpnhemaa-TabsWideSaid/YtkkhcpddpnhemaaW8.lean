/-
  Walks: the iterator.
-/
import Derived.Test.YtkkhcpddpnhemaaRows
import Derived.Test.YtkkhcpddpnhemaaLt
import Derived.Test.YtkkhcpddpnhemaaDefs
import Derived.Test.YtkkhcpddpnhemaaVis
import Derived.RangeFuncNested
import Derived.RangeFuncBound
import Derived.RangeFuncCalls
import Derived.RangeFuncLeaves
import Derived.RangeFuncBox
import Derived.Shelf.Abstract
import Derived.Shelf.RegionOpen
import Derived.WalkKit
import Derived.OwnWalkIn
import Derived.TacticsInMore
import Derived.LoopNIn
import Derived.LoopIn
import Derived.Maps.AppendAt
import Derived.Outline
import Derived.Lib.Hide
namespace Go.Proofs.Ytkkhcpddpnhemaa
open Go.RowKit Go.Shelf
attribute [local go_sem] Oper.semAt_some


def KeepB (L : List Nat) (A B : World) : Prop := ∀ b ∈ L, B.heap[b]? = A.heap[b]?
theorem KeepB.cell {L : List Nat} {A B : World} (h : KeepB L A B) {b i : Nat} (hb : b ∈ L) : B.cell? ⟨b, i, none⟩ = A.cell? ⟨b, i, none⟩ := World.cell?_of_block (w := A) (h b hb)
def fw (c j : Nat) : Nat := c + j
theorem fw_fwd (c : Nat) : fw (c + 1) = fwd c := rfl
theorem KeepB.trans {L : List Nat} {A B C : World} (h : KeepB L A B) (k : KeepB L B C) : KeepB L A C := fun b hb => (k b hb).trans (h b hb)

set_option maxRecDepth 100000 in
set_option maxHeartbeats 4000000 in
theorem fwd_in (F : Fence) (n : Nat) (h42 : F.fn 42) (hro : F.round = none) (hn : 1 ≤ n) (l Bc Bs Bt b off len cap c0 : Nat) (ll : List Bool) (hll : ll.length = len) (h1000 : len ≤ 1000) (hc0 : c0 ≤ len) (J Jx : List Nat → World → Prop)
    (hY : ∀ (pre : List Nat) (x : Nat) W, J pre W → pre.length < len + 1 → YieldAt F (n - 1) Try.prog l #[.int .i64 x] W fun e W' =>
      (e = .returned (.bool true) ∧ J (pre ++ [x]) W' ∧ KeepB [b, Bt, Bc, Bs] W W') ∨ (e = .returned (.bool false) ∧ Jx (pre ++ [x]) W'))
    (W : World) (hBc : W.cell? ⟨Bc, 0, none⟩ = some (.int .i64 ((c0 : Int) - 1))) (hBs : W.cell? ⟨Bs, 0, none⟩ = some (.int .i64 1)) (hBt : W.cell? ⟨Bt, 0, none⟩ = some (.slice (some ⟨b, off, none⟩) len cap)) (hc : ∀ j, j < ll.length → W.cell? ⟨b, off + j, none⟩ = some (.bool (ll[j]?.getD false))) (h0 : J [] W) :
    CallsIn F n Try.prog 42 #[.func (.yield l) #[] #[], .pointer (some ⟨Bc, 0, none⟩), .pointer (some ⟨Bs, 0, none⟩), .pointer (some ⟨Bt, 0, none⟩)] W fun e W' => (∃ v, e = .returned v) ∧
      ((∃ ys, ys = vis (fw c0) ll (len - c0) ∧ J ys W') ∨ (∃ pre, (∃ t, vis (fw c0) ll (len - c0) = pre ++ t) ∧ Jx pre W')) := by
  have Hc := Lib.hid hc
  have Hll := Lib.hid hll
  clear hc hll
  refine callsIn_of_wp Try.func42 rfl h42 ?_ hro
  simp only [Try.ntmps42, List.size_toArray, List.length_cons, List.length_nil, Nat.reduceAdd, Nat.reduceSub, Array.replicate_succ, Array.replicate_zero, List.push_toArray, List.append_toArray, List.nil_append, List.cons_append]
  gi_wp2
  gi_loopw [5] (fun i wr => ∃ j : Nat, j ≤ (len - c0) ∧ i = .int .i64 ((c0 : Int) + j) ∧ J (vis (fw c0) ll j) wr ∧ KeepB [b, Bt, Bc, Bs] W wr) (fun i _ => (len - (intOf i).toNat))
  case atStart => exact ⟨0, by omega, by go_num, h0, fun _ _ => rfl⟩
  case round =>
    obtain ⟨j, hj, rfl, hJs, hK⟩ := hrel
    have hBc' := (hK.cell (i := 0) (show Bc ∈ [b, Bt, Bc, Bs] by simp)).trans hBc
    have hBs' := (hK.cell (i := 0) (show Bs ∈ [b, Bt, Bc, Bs] by simp)).trans hBs
    have hBt' := (hK.cell (i := 0) (show Bt ∈ [b, Bt, Bc, Bs] by simp)).trans hBt
    have hlen := vis_len (fw c0) ll j
    by_cases hlt : j < (len - c0)
    · obtain ⟨x, hx⟩ : ∃ x : Nat, x = (fw c0) j := ⟨_, rfl⟩
      have hx' : x = c0 + j := hx
      have hxl : x < len := by omega
      have e1 : decide ((0 : Int) ≤ (c0 : Int) + j) = true := by simp; omega
      have e2 : decide ((c0 : Int) + j < len) = true := by simp; omega
      have e3 : (c0 : Int) + j = x := by omega
      have e4 : (c0 : Int) + j < len := by omega
      have e5 : (0 : Int) ≤ (c0 : Int) + j := by omega
      have e6 : c0 + j = x := by omega
      have hcx := (hK.cell (i := off + x) (show b ∈ [b, Bt, Bc, Bs] by simp)).trans (Hc.out x (by have := Hll.out; omega))
      have HV1 : Hid (ll[x]?.getD false = true → vis (fw c0) ll (j + 1) = vis (fw c0) ll j ++ [x]) := Lib.hid fun h => by rw [hx]; exact vis_yes (by rw [← hx]; exact h)
      have HV0 : Hid (ll[x]?.getD false = false → vis (fw c0) ll (j + 1) = vis (fw c0) ll j) := Lib.hid fun h => vis_no (by rw [← hx]; exact h)
      have HX := Lib.hid hx'
      clear hx hx'
      generalize hy0 : ll[x]?.getD false = y at *
      cases y with
      | true =>
        have HV := Lib.hid (HV1.out rfl)
        obtain ⟨fn, tmps, assign, body, hy, hR⟩ := hY _ x wr hJs (by omega)
        clear hy0 HV1 HV0
        gi_wp2
        refine hR.mono ?_
        rintro e W3 (⟨rfl, hJ3, hk3⟩ | ⟨rfl, hJx3⟩)
        · have hBs3 := (hk3.cell (i := 0) (show Bs ∈ [b, Bt, Bc, Bs] by simp)).trans hBs'
          gi_wp2
          go_roundw
          case rel => exact ⟨j + 1, by omega, by (have := HX.out; go_num), by rw [HV.out]; exact hJ3, hK.trans hk3⟩
          case measure => have := HX.out; simp [intOf]; omega
        · gi_wp2
          refine bodyPost_ret (results_none rfl _ _ _) rfl ?_
          refine ⟨⟨_, rfl⟩, .inr ⟨_, ?_, hJx3⟩⟩
          rw [← HV.out]
          exact vis_prefix (fw c0) ll (by omega)
      | false =>
        have HV := Lib.hid (HV0.out rfl)
        clear hy0 HV1 HV0
        gi_wp2
        refine ⟨fun _ h => (by cases h), ?_⟩
        gi_wp2
        go_roundw
        case rel => exact ⟨j + 1, by omega, by (have := HX.out; go_num), by rw [HV.out]; exact hJs, hK⟩
        case measure => have := HX.out; simp [intOf]; omega
    · have hjm : j = (len - c0) := by omega
      have e1 : decide ((0 : Int) ≤ (c0 : Int) + j) = true := by simp; omega
      have e2 : decide ((c0 : Int) + j < len) = false := by simp; omega
      have HJ := Lib.hid hjm
      clear hjm
      gi_wp2
      go_end0
      rw [HJ.out] at hJs
      first
        | exact ⟨⟨_, rfl⟩, .inl ⟨_, rfl, hJs⟩⟩
        | exact ⟨⟨_, rfl⟩, .inl hJs⟩

set_option maxRecDepth 100000 in
set_option maxHeartbeats 4000000 in
theorem bwd_in (F : Fence) (n : Nat) (h42 : F.fn 42) (hro : F.round = none) (hn : 1 ≤ n) (l Bc Bs Bt b off len cap col : Nat) (ll : List Bool) (hll : ll.length = len) (h1000 : len ≤ 1000) (hcol : col < len) (J Jx : List Nat → World → Prop)
    (hY : ∀ (pre : List Nat) (x : Nat) W, J pre W → pre.length < len + 1 → YieldAt F (n - 1) Try.prog l #[.int .i64 x] W fun e W' =>
      (e = .returned (.bool true) ∧ J (pre ++ [x]) W' ∧ KeepB [b, Bt, Bc, Bs] W W') ∨ (e = .returned (.bool false) ∧ Jx (pre ++ [x]) W'))
    (W : World) (hBc : W.cell? ⟨Bc, 0, none⟩ = some (.int .i64 (col : Int))) (hBs : W.cell? ⟨Bs, 0, none⟩ = some (.int .i64 (-1))) (hBt : W.cell? ⟨Bt, 0, none⟩ = some (.slice (some ⟨b, off, none⟩) len cap)) (hc : ∀ j, j < ll.length → W.cell? ⟨b, off + j, none⟩ = some (.bool (ll[j]?.getD false))) (h0 : J [] W) :
    CallsIn F n Try.prog 42 #[.func (.yield l) #[] #[], .pointer (some ⟨Bc, 0, none⟩), .pointer (some ⟨Bs, 0, none⟩), .pointer (some ⟨Bt, 0, none⟩)] W fun e W' => (∃ v, e = .returned v) ∧
      ((∃ ys, ys = vis (bwd col) ll col ∧ J ys W') ∨ (∃ pre, (∃ t, vis (bwd col) ll col = pre ++ t) ∧ Jx pre W')) := by
  have Hc := Lib.hid hc
  have Hll := Lib.hid hll
  clear hc hll
  refine callsIn_of_wp Try.func42 rfl h42 ?_ hro
  simp only [Try.ntmps42, List.size_toArray, List.length_cons, List.length_nil, Nat.reduceAdd, Nat.reduceSub, Array.replicate_succ, Array.replicate_zero, List.push_toArray, List.append_toArray, List.nil_append, List.cons_append]
  gi_wp2
  gi_loopw [5] (fun i wr => ∃ j : Nat, j ≤ col ∧ i = .int .i64 ((col : Int) - 1 - j) ∧ J (vis (bwd col) ll j) wr ∧ KeepB [b, Bt, Bc, Bs] W wr) (fun i _ => (intOf i + 1).toNat)
  case atStart => exact ⟨0, by omega, by go_num, h0, fun _ _ => rfl⟩
  case round =>
    obtain ⟨j, hj, rfl, hJs, hK⟩ := hrel
    have hBc' := (hK.cell (i := 0) (show Bc ∈ [b, Bt, Bc, Bs] by simp)).trans hBc
    have hBs' := (hK.cell (i := 0) (show Bs ∈ [b, Bt, Bc, Bs] by simp)).trans hBs
    have hBt' := (hK.cell (i := 0) (show Bt ∈ [b, Bt, Bc, Bs] by simp)).trans hBt
    have hlen := vis_len (bwd col) ll j
    by_cases hlt : j < col
    · obtain ⟨x, hx⟩ : ∃ x : Nat, x = (bwd col) j := ⟨_, rfl⟩
      have hx' : x = col - 1 - j := hx
      have hxl : x < len := by omega
      have e1 : decide ((0 : Int) ≤ (col : Int) - 1 - j) = true := by simp; omega
      have e2 : decide ((col : Int) - 1 - j < len) = true := by simp; omega
      have e3 : (col : Int) - 1 - j = x := by omega
      have e4 : (col : Int) - 1 - j < len := by omega
      have e5 : (0 : Int) ≤ (col : Int) - 1 - j := by omega
      have hcx := (hK.cell (i := off + x) (show b ∈ [b, Bt, Bc, Bs] by simp)).trans (Hc.out x (by have := Hll.out; omega))
      have HV1 : Hid (ll[x]?.getD false = true → vis (bwd col) ll (j + 1) = vis (bwd col) ll j ++ [x]) := Lib.hid fun h => by rw [hx]; exact vis_yes (by rw [← hx]; exact h)
      have HV0 : Hid (ll[x]?.getD false = false → vis (bwd col) ll (j + 1) = vis (bwd col) ll j) := Lib.hid fun h => vis_no (by rw [← hx]; exact h)
      have HX := Lib.hid hx'
      clear hx hx'
      generalize hy0 : ll[x]?.getD false = y at *
      cases y with
      | true =>
        have HV := Lib.hid (HV1.out rfl)
        obtain ⟨fn, tmps, assign, body, hy, hR⟩ := hY _ x wr hJs (by omega)
        clear hy0 HV1 HV0
        gi_wp2
        refine hR.mono ?_
        rintro e W3 (⟨rfl, hJ3, hk3⟩ | ⟨rfl, hJx3⟩)
        · have hBs3 := (hk3.cell (i := 0) (show Bs ∈ [b, Bt, Bc, Bs] by simp)).trans hBs'
          gi_wp2
          go_roundw
          case rel => exact ⟨j + 1, by omega, by (have := HX.out; go_num), by rw [HV.out]; exact hJ3, hK.trans hk3⟩
          case measure => have := HX.out; simp [intOf]; omega
        · gi_wp2
          refine bodyPost_ret (results_none rfl _ _ _) rfl ?_
          refine ⟨⟨_, rfl⟩, .inr ⟨_, ?_, hJx3⟩⟩
          rw [← HV.out]
          exact vis_prefix (bwd col) ll (by omega)
      | false =>
        have HV := Lib.hid (HV0.out rfl)
        clear hy0 HV1 HV0
        gi_wp2
        refine ⟨fun _ h => (by cases h), ?_⟩
        gi_wp2
        go_roundw
        case rel => exact ⟨j + 1, by omega, by (have := HX.out; go_num), by rw [HV.out]; exact hJs, hK⟩
        case measure => have := HX.out; simp [intOf]; omega
    · have hjm : j = col := by omega
      have e1 : decide ((0 : Int) ≤ (col : Int) - 1 - j) = false := by simp; omega
      have HJ := Lib.hid hjm
      clear hjm
      gi_wp2
      go_end0
      rw [HJ.out] at hJs
      first
        | exact ⟨⟨_, rfl⟩, .inl ⟨_, rfl, hJs⟩⟩
        | exact ⟨⟨_, rfl⟩, .inl hJs⟩

theorem fwd_stops (F : Fence) (n : Nat) (h42 : F.fn 42) (hro : F.round = none) (hn : 1 ≤ n) (Bc Bs Bt b off len cap c0 : Nat) (ll : List Bool) (hll : ll.length = len) (h1000 : len ≤ 1000) (hc0 : c0 ≤ len) (w : World)
    (hBc : w.cell? ⟨Bc, 0, none⟩ = some (.int .i64 ((c0 : Int) - 1))) (hBs : w.cell? ⟨Bs, 0, none⟩ = some (.int .i64 1)) (hBt : w.cell? ⟨Bt, 0, none⟩ = some (.slice (some ⟨b, off, none⟩) len cap)) (hc : ∀ j, j < ll.length → w.cell? ⟨b, off + j, none⟩ = some (.bool (ll[j]?.getD false)))
    (k1 : Bc < w.heap.size) (k2 : Bs < w.heap.size) (k3 : Bt < w.heap.size) (k4 : b < w.heap.size) :
    SeqStopsK F n Try.prog 42 #[.pointer (some ⟨Bc, 0, none⟩), .pointer (some ⟨Bs, 0, none⟩), .pointer (some ⟨Bt, 0, none⟩)] (fun x : Nat => #[Value.int .i64 x]) (KeepB [b, Bt, Bc, Bs]) (fun ys => ys = vis (fw c0) ll (len - c0)) (fun pre => ∃ t, vis (fw c0) ll (len - c0) = pre ++ t) (len + 1) w :=
  fun l J Jx W hW _ _ hY h0 => fwd_in F n h42 hro hn l Bc Bs Bt b off len cap c0 ll hll h1000 hc0 J Jx hY W ((hW.cell (p := ⟨Bc, 0, none⟩) k1).trans hBc) ((hW.cell (p := ⟨Bs, 0, none⟩) k2).trans hBs) ((hW.cell (p := ⟨Bt, 0, none⟩) k3).trans hBt) (fun j hj => (hW.cell (p := ⟨b, off + j, none⟩) k4).trans (hc j hj)) h0

theorem bwd_stops (F : Fence) (n : Nat) (h42 : F.fn 42) (hro : F.round = none) (hn : 1 ≤ n) (Bc Bs Bt b off len cap col : Nat) (ll : List Bool) (hll : ll.length = len) (h1000 : len ≤ 1000) (hcol : col < len) (w : World)
    (hBc : w.cell? ⟨Bc, 0, none⟩ = some (.int .i64 (col : Int))) (hBs : w.cell? ⟨Bs, 0, none⟩ = some (.int .i64 (-1))) (hBt : w.cell? ⟨Bt, 0, none⟩ = some (.slice (some ⟨b, off, none⟩) len cap)) (hc : ∀ j, j < ll.length → w.cell? ⟨b, off + j, none⟩ = some (.bool (ll[j]?.getD false)))
    (k1 : Bc < w.heap.size) (k2 : Bs < w.heap.size) (k3 : Bt < w.heap.size) (k4 : b < w.heap.size) :
    SeqStopsK F n Try.prog 42 #[.pointer (some ⟨Bc, 0, none⟩), .pointer (some ⟨Bs, 0, none⟩), .pointer (some ⟨Bt, 0, none⟩)] (fun x : Nat => #[Value.int .i64 x]) (KeepB [b, Bt, Bc, Bs]) (fun ys => ys = vis (bwd col) ll col) (fun pre => ∃ t, vis (bwd col) ll col = pre ++ t) (len + 1) w :=
  fun l J Jx W hW _ _ hY h0 => bwd_in F n h42 hro hn l Bc Bs Bt b off len cap col ll hll h1000 hcol J Jx hY W ((hW.cell (p := ⟨Bc, 0, none⟩) k1).trans hBc) ((hW.cell (p := ⟨Bs, 0, none⟩) k2).trans hBs) ((hW.cell (p := ⟨Bt, 0, none⟩) k3).trans hBt) (fun j hj => (hW.cell (p := ⟨b, off + j, none⟩) k4).trans (hc j hj)) h0

theorem stops_in (F : Fence) (n : Nat) (h39 : F.fn 39) (hro : F.round = none) (a : Option Addr) (len cap : Nat) (col st : Int) (w : World) :
    CallsIn F n Try.prog 39 #[.slice a len cap, .int .i64 col, .int .i64 st] w fun e w' => e = .returned (.func (.func 42) #[] #[.pointer (some ⟨w.heap.size + 1, 0, none⟩), .pointer (some ⟨w.heap.size + 1 + 1, 0, none⟩), .pointer (some ⟨w.heap.size, 0, none⟩)]) ∧
      w' = ((w.alloc (.cells #[.slice a len cap] 23)).alloc (.cells #[.int .i64 col] 3)).alloc (.cells #[.int .i64 st] 3) := by
  refine callsIn_of_wp Try.func39 rfl h39 ?_ hro
  simp only [Try.ntmps39, List.size_toArray, List.length_cons, List.length_nil, Nat.reduceAdd, Nat.reduceSub, Array.replicate_succ, Array.replicate_zero, List.push_toArray, List.append_toArray, List.nil_append, List.cons_append]
  gi_wp2
  go_ret
  exact ⟨rfl, rfl⟩
theorem keepB_t {L : List Nat} {A B C : World} (h : KeepB L A B) (k : KeepB L B C) : KeepB L A C := h.trans k
theorem keepB_b {L : List Nat} {N : Nat} (h : ∀ b ∈ L, b < N) (W : World) (l : Nat) (o o' : Obj) (hl : N ≤ l) (_ : W.heap[l]? = some o) (_ : o.isCells = false) (_ : o.isWalk = false) : KeepB L W (W.putObj l o') := by
  intro b hb
  have := h b hb
  exact World.putObj_heap_other (by omega)
theorem keepB_set {L : List Nat} {N i : Nat} {v : Value} (h : ∀ b ∈ L, b ≠ N) (W : World) : KeepB L W (W.setCell ⟨N, i, none⟩ v) := fun b hb => heap_setCell_other W _ _ _ (h b hb)
end Go.Proofs.Ytkkhcpddpnhemaa
