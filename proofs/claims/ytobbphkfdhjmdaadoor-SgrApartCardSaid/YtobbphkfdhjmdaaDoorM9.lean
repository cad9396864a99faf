/-
  Walks: colour, row. Walks: told. Walks: told, the attributes. told, whole. Same of the reference, whole. Plain laws for Params. Walk: Params of valid pens. Walk: Params that answers an error.
-/
import Derived.Test.YtobbphkfdhjmdaaDoorRows
import Derived.Test.YtobbphkfdhjmdaaDoorM1
import Derived.Test.YtobbphkfdhjmdaaDoorM2
import Derived.WalkKit
import Derived.WalkSpells
import Derived.WalkLawsBesides
import Derived.Handy
import Derived.Laws.Rows
import Derived.Great.BuildSlice
import Derived.Deep.Heap
import Derived.IntWalk
import Derived.Lib.Hide
import Derived.Outline
import Derived.Deep.Light
import Derived.Deep.LoopGhost
import Derived.BigGuardPart
import Derived.BigQuiet
import Derived.Deep.QuietTactic
import Derived.Deep.RegionHeld3
import Derived.Deep.DeepCutAuto
import Derived.Test.YtobbphkfdhjmdaaDoorM4
import Derived.OwnWalk
import Derived.Maps.AppendAt
import Derived.Test.YtobbphkfdhjmdaaDoorM8
namespace Go.Proofs.YtobbphkfdhjmdaaDoor
open Go.RowKit

theorem and_nat (x y : Nat) (hx : x < 16777216) (hy : y < 16777216) : bits .and .i64 (x : Int) (y : Int) = ((x &&& y : Nat) : Int) := by
  have h : x &&& y ≤ x := Nat.and_le_left
  have q : ∀ z, z < 16777216 → z % 2 ^ 64 = z := fun z hz => Nat.mod_eq_of_lt (Nat.lt_of_lt_of_le hz (by decide))
  have hn : (BitVec.ofNat 64 x &&& BitVec.ofNat 64 y).toNat = x &&& y := by
    rw [BitVec.toNat_and, BitVec.toNat_ofNat, BitVec.toNat_ofNat, q x hx, q y hy]
  rw [and_eq, BitVec.ofInt_natCast, BitVec.ofInt_natCast, BitVec.toInt_eq_toNat_of_lt, hn]
  rw [hn]
  omega
theorem and_255 {c : Int} (h0 : 0 ≤ c) (h1 : c < 16777216) : bits .and .i64 c 255 = c % 256 := by
  obtain ⟨x, rfl⟩ := Int.eq_ofNat_of_zero_le h0
  have e := and_nat x 255 (by omega) (by decide)
  have e2 := Nat.and_two_pow_sub_one_eq_mod x 8
  rw [show 2 ^ 8 - 1 = 255 from rfl, show 2 ^ 8 = 256 from rfl] at e2
  rw [e2] at e
  rw [show (255 : Int) = ((255 : Nat) : Int) from rfl, e]
  omega
theorem row_at {w : World} {o : Obj} {n : Nat} (h : w.heap.size = n) : (w.alloc o).heap[n]? = some o := h ▸ heap_alloc_new w o
/-- A parameter whose parts lie in a block of the call's own. -/
def ToldPost (l : List Int) (w : World) (e : Ending) (w' : World) : Prop := ∃ b, e = .returned (.agg #[.slice (some ⟨b, 0, none⟩) l.length l.length]) ∧ w.heap.size ≤ b ∧ w'.heap[b]? = some (.cells (l.map (Value.int .i64 ·)).toArray 3 (0, 0)) ∧ Grows w w'
theorem row50_any (a : Option Addr) (n cap : Nat) (w : World) : Calls Tryd.prog 50 #[.slice a n cap] w (Ret (.agg #[.slice a n cap]) w) := by
  go_enter Tryd.func50, Tryd.ntmps50
  go_wp2
  go_returns
  exact ⟨rfl, (by repeat' (first | (with_reducible exact Grows.refl _) | (with_reducible refine Grows.alloc ?_ _) | (with_reducible refine Grows.drew ?_) | (with_reducible refine Grows.ext ?_ _ _)))⟩
set_option maxHeartbeats 1000000 in
theorem colour_none (n m c : Int) (w : World) (hn0 : 4 ≤ n) (hn1 : n ≤ 6)  : Calls Tryd.prog 51 #[.agg #[.int .i64 39, .int .i64 n, .int .i64 m, .int .i64 0, .int .i64 c, .string ⟨#[]⟩]] w (ToldPost [38 + 10 * (n - 4) + 1] w) := by
  go_enter Tryd.func51, Tryd.ntmps51
  go_wp2_with (first | (go_at_call 50; (with_reducible refine (row50_any _ _ _ _).mono ?_); rintro e w' ⟨rfl, h51, d51, rfl⟩))
  go_returns
  refine ⟨_, rfl, by omega, ?_, (by repeat' (first | (with_reducible exact Grows.refl _) | (with_reducible refine Grows.alloc ?_ _) | (with_reducible refine Grows.drew ?_) | (with_reducible refine Grows.ext ?_ _ _)))⟩
  refine (Grows.rowK (row_at (by simp)) ((Grows.refl _).ext _ _)).trans ?_
  simp
set_option maxHeartbeats 1000000 in
theorem colour_rgb (n m c : Int) (w : World) (hn0 : 4 ≤ n) (hn1 : n ≤ 6) (hc0 : 0 ≤ c) (hc1 : c ≤ 16777215) : Calls Tryd.prog 51 #[.agg #[.int .i64 39, .int .i64 n, .int .i64 m, .int .i64 2, .int .i64 c, .string ⟨#[]⟩]] w (ToldPost [38 + 10 * (n - 4), 2, -1, c / 65536, c / 256 % 256, c % 256] w) := by
  have q0 := and_255 (c := c) hc0 (by omega)
  have q1 := and_255 (c := c / 256) (by omega) (by omega)
  go_enter Tryd.func51, Tryd.ntmps51
  go_wp2_with (first | (go_at_call 50; (with_reducible refine (row50_any _ _ _ _).mono ?_); rintro e w' ⟨rfl, h52, d52, rfl⟩))
  go_returns
  refine ⟨_, rfl, by omega, ?_, (by repeat' (first | (with_reducible exact Grows.refl _) | (with_reducible refine Grows.alloc ?_ _) | (with_reducible refine Grows.drew ?_) | (with_reducible refine Grows.ext ?_ _ _)))⟩
  refine (Grows.rowK (row_at (by simp)) ((Grows.refl _).ext _ _)).trans ?_
  simp
set_option maxHeartbeats 1000000 in
theorem colour_eight (n m c : Int) (w : World) (hn0 : 4 ≤ n) (hn1 : n ≤ 6) (hk : n ≠ 6) (hc0 : 0 ≤ c) (hc1 : c < 8) : Calls Tryd.prog 51 #[.agg #[.int .i64 39, .int .i64 n, .int .i64 m, .int .i64 1, .int .i64 c, .string ⟨#[]⟩]] w (ToldPost [38 + 10 * (n - 4) - 8 + c] w) := by
  have e6 : (n != 6) = true := by simpa using hk
  go_enter Tryd.func51, Tryd.ntmps51
  go_wp2_with (first | (go_at_call 50; (with_reducible refine (row50_any _ _ _ _).mono ?_); rintro e w' ⟨rfl, h53, d53, rfl⟩))
  go_returns
  refine ⟨_, rfl, by omega, ?_, (by repeat' (first | (with_reducible exact Grows.refl _) | (with_reducible refine Grows.alloc ?_ _) | (with_reducible refine Grows.drew ?_) | (with_reducible refine Grows.ext ?_ _ _)))⟩
  refine (Grows.rowK (row_at (by simp)) ((Grows.refl _).ext _ _)).trans ?_
  simp
set_option maxHeartbeats 1000000 in
theorem colour_six (n m c : Int) (w : World) (hn0 : 4 ≤ n) (hn1 : n ≤ 6) (hk : n ≠ 6) (hc0 : 8 ≤ c) (hc1 : c < 16) : Calls Tryd.prog 51 #[.agg #[.int .i64 39, .int .i64 n, .int .i64 m, .int .i64 1, .int .i64 c, .string ⟨#[]⟩]] w (ToldPost [38 + 10 * (n - 4) + 52 + c - 8] w) := by
  have e6 : (n != 6) = true := by simpa using hk
  go_enter Tryd.func51, Tryd.ntmps51
  go_wp2_with (first | (go_at_call 50; (with_reducible refine (row50_any _ _ _ _).mono ?_); rintro e w' ⟨rfl, h54, d54, rfl⟩))
  go_returns
  refine ⟨_, rfl, by omega, ?_, (by repeat' (first | (with_reducible exact Grows.refl _) | (with_reducible refine Grows.alloc ?_ _) | (with_reducible refine Grows.drew ?_) | (with_reducible refine Grows.ext ?_ _ _)))⟩
  refine (Grows.rowK (row_at (by simp)) ((Grows.refl _).ext _ _)).trans ?_
  simp
set_option maxHeartbeats 1000000 in
theorem colour_more (n m c : Int) (w : World) (hn0 : 4 ≤ n) (hn1 : n ≤ 6) (hc0 : 16 ≤ c) (hc1 : c ≤ 255) : Calls Tryd.prog 51 #[.agg #[.int .i64 39, .int .i64 n, .int .i64 m, .int .i64 1, .int .i64 c, .string ⟨#[]⟩]] w (ToldPost [38 + 10 * (n - 4), 5, c] w) := by
  go_enter Tryd.func51, Tryd.ntmps51
  go_wp2_with (first | (go_at_call 50; (with_reducible refine (row50_any _ _ _ _).mono ?_); rintro e w' ⟨rfl, h55, d55, rfl⟩))
  go_returns
  refine ⟨_, rfl, by omega, ?_, (by repeat' (first | (with_reducible exact Grows.refl _) | (with_reducible refine Grows.alloc ?_ _) | (with_reducible refine Grows.drew ?_) | (with_reducible refine Grows.ext ?_ _ _)))⟩
  refine (Grows.rowK (row_at (by simp)) ((Grows.refl _).ext _ _)).trans ?_
  simp
set_option maxHeartbeats 1000000 in
theorem colour_line_a (m c : Int) (w : World) (hc0 : 0 ≤ c) (hc1 : c < 8) : Calls Tryd.prog 51 #[.agg #[.int .i64 39, .int .i64 6, .int .i64 m, .int .i64 1, .int .i64 c, .string ⟨#[]⟩]] w (ToldPost [58, 5, c] w) := by
  have d8 : decide (c < 8) = true := by simp; omega
  have d16 : decide (c < 16) = true := by simp; omega
  go_enter Tryd.func51, Tryd.ntmps51
  go_wp2_with (first | (go_at_call 50; (with_reducible refine (row50_any _ _ _ _).mono ?_); rintro e w' ⟨rfl, h56, d56, rfl⟩))
  go_returns
  refine ⟨_, rfl, by omega, ?_, (by repeat' (first | (with_reducible exact Grows.refl _) | (with_reducible refine Grows.alloc ?_ _) | (with_reducible refine Grows.drew ?_) | (with_reducible refine Grows.ext ?_ _ _)))⟩
  refine (Grows.rowK (row_at (by simp)) ((Grows.refl _).ext _ _)).trans ?_
  simp
set_option maxHeartbeats 1000000 in
theorem colour_line_b (m c : Int) (w : World) (_hc0 : 0 ≤ c) (hc1 : 8 ≤ c) (hc2 : c < 16) : Calls Tryd.prog 51 #[.agg #[.int .i64 39, .int .i64 6, .int .i64 m, .int .i64 1, .int .i64 c, .string ⟨#[]⟩]] w (ToldPost [58, 5, c] w) := by
  have d8 : decide (c < 8) = false := by simp; omega
  have d16 : decide (c < 16) = true := by simp; omega
  go_enter Tryd.func51, Tryd.ntmps51
  go_wp2_with (first | (go_at_call 50; (with_reducible refine (row50_any _ _ _ _).mono ?_); rintro e w' ⟨rfl, h57, d57, rfl⟩))
  go_returns
  refine ⟨_, rfl, by omega, ?_, (by repeat' (first | (with_reducible exact Grows.refl _) | (with_reducible refine Grows.alloc ?_ _) | (with_reducible refine Grows.drew ?_) | (with_reducible refine Grows.ext ?_ _ _)))⟩
  refine (Grows.rowK (row_at (by simp)) ((Grows.refl _).ext _ _)).trans ?_
  simp
set_option maxHeartbeats 1000000 in
theorem colour_line_c (m c : Int) (w : World) (_hc0 : 0 ≤ c) (hc1 : 16 ≤ c) (hc2 : c ≤ 255) : Calls Tryd.prog 51 #[.agg #[.int .i64 39, .int .i64 6, .int .i64 m, .int .i64 1, .int .i64 c, .string ⟨#[]⟩]] w (ToldPost [58, 5, c] w) := by
  have d8 : decide (c < 8) = false := by simp; omega
  have d16 : decide (c < 16) = false := by simp; omega
  go_enter Tryd.func51, Tryd.ntmps51
  go_wp2_with (first | (go_at_call 50; (with_reducible refine (row50_any _ _ _ _).mono ?_); rintro e w' ⟨rfl, h58, d58, rfl⟩))
  go_returns
  refine ⟨_, rfl, by omega, ?_, (by repeat' (first | (with_reducible exact Grows.refl _) | (with_reducible refine Grows.alloc ?_ _) | (with_reducible refine Grows.drew ?_) | (with_reducible refine Grows.ext ?_ _ _)))⟩
  refine (Grows.rowK (row_at (by simp)) ((Grows.refl _).ext _ _)).trans ?_
  simp
end Go.Proofs.YtobbphkfdhjmdaaDoor

namespace Go.Proofs.YtobbphkfdhjmdaaDoor
open Go.RowKit

theorem ext_far {w1 w2 : World} {h : Array Obj} {d d' b : Nat} (hs : w1.heap.size = w2.heap.size) (hb : w1.heap.size ≤ b) : (ext w1 h d).heap[b]? = (ext w2 h d').heap[b]? := by
  show (w1.heap ++ h)[b]? = (w2.heap ++ h)[b]?
  rw [Array.getElem?_append_right hb, Array.getElem?_append_right (by omega), hs]
set_option maxHeartbeats 1000000 in
theorem told_reset (w : World) : Calls Tryd.prog 29 #[.agg #[.int .i64 39, .int .i64 0, .int .i64 0, .int .i64 0, .int .i64 0, .string ⟨#[]⟩]] w (ToldPost [0] w) := by
  go_enter Tryd.func29, Tryd.ntmps29
  go_wp2_with (first | (go_at_call 50; (with_reducible refine (row50_any _ _ _ _).mono ?_); rintro e w' ⟨rfl, h59, d59, rfl⟩))
  go_returns
  refine ⟨_, rfl, by omega, ?_, (by repeat' (first | (with_reducible exact Grows.refl _) | (with_reducible refine Grows.alloc ?_ _) | (with_reducible refine Grows.drew ?_) | (with_reducible refine Grows.ext ?_ _ _)))⟩
  refine (Grows.rowK (row_at (by simp)) ((Grows.refl _).ext _ _)).trans ?_
  simp
set_option maxHeartbeats 1000000 in
theorem told_off (w : World) : Calls Tryd.prog 29 #[.agg #[.int .i64 39, .int .i64 3, .int .i64 0, .int .i64 0, .int .i64 0, .string ⟨#[]⟩]] w (ToldPost [24] w) := by
  go_enter Tryd.func29, Tryd.ntmps29
  go_wp2_with (first | (go_at_call 50; (with_reducible refine (row50_any _ _ _ _).mono ?_); rintro e w' ⟨rfl, h60, d60, rfl⟩))
  go_returns
  refine ⟨_, rfl, by omega, ?_, (by repeat' (first | (with_reducible exact Grows.refl _) | (with_reducible refine Grows.alloc ?_ _) | (with_reducible refine Grows.drew ?_) | (with_reducible refine Grows.ext ?_ _ _)))⟩
  refine (Grows.rowK (row_at (by simp)) ((Grows.refl _).ext _ _)).trans ?_
  simp
set_option maxHeartbeats 1000000 in
theorem told_line (w : World) : Calls Tryd.prog 29 #[.agg #[.int .i64 39, .int .i64 3, .int .i64 1, .int .i64 0, .int .i64 0, .string ⟨#[]⟩]] w (ToldPost [4] w) := by
  go_enter Tryd.func29, Tryd.ntmps29
  go_wp2_with (first | (go_at_call 50; (with_reducible refine (row50_any _ _ _ _).mono ?_); rintro e w' ⟨rfl, h61, d61, rfl⟩))
  go_returns
  refine ⟨_, rfl, by omega, ?_, (by repeat' (first | (with_reducible exact Grows.refl _) | (with_reducible refine Grows.alloc ?_ _) | (with_reducible refine Grows.drew ?_) | (with_reducible refine Grows.ext ?_ _ _)))⟩
  refine (Grows.rowK (row_at (by simp)) ((Grows.refl _).ext _ _)).trans ?_
  simp
set_option maxHeartbeats 1000000 in
theorem told_under (m : Int) (w : World) (h0 : 2 ≤ m) (h1 : m ≤ 5) : Calls Tryd.prog 29 #[.agg #[.int .i64 39, .int .i64 3, .int .i64 m, .int .i64 0, .int .i64 0, .string ⟨#[]⟩]] w (ToldPost [4, m] w) := by
  have e0 : (m == 0) = false := by simp; omega
  have e1 : (m == 1) = false := by simp; omega
  go_enter Tryd.func29, Tryd.ntmps29
  go_wp2_with (first | (go_at_call 50; (with_reducible refine (row50_any _ _ _ _).mono ?_); rintro e w' ⟨rfl, h62, d62, rfl⟩))
  go_returns
  refine ⟨_, rfl, by omega, ?_, (by repeat' (first | (with_reducible exact Grows.refl _) | (with_reducible refine Grows.alloc ?_ _) | (with_reducible refine Grows.drew ?_) | (with_reducible refine Grows.ext ?_ _ _)))⟩
  refine (Grows.rowK (row_at (by simp)) ((Grows.refl _).ext _ _)).trans ?_
  simp
set_option maxHeartbeats 1000000 in
theorem told_col (n k c : Int) (w : World) (l : List Int) (hn : 4 ≤ n) (h : ∀ W, Calls Tryd.prog 51 #[.agg #[.int .i64 39, .int .i64 n, .int .i64 0, .int .i64 k, .int .i64 c, .string ⟨#[]⟩]] W (ToldPost l W)) : Calls Tryd.prog 29 #[.agg #[.int .i64 39, .int .i64 n, .int .i64 0, .int .i64 k, .int .i64 c, .string ⟨#[]⟩]] w (ToldPost l w) := by
  have e0 : (n == 0) = false := by simp; omega
  have e3 : (n == 3) = false := by simp; omega
  have HC := Lib.hid h
  clear h
  go_enter Tryd.func29, Tryd.ntmps29
  go_wp2_with (first | (go_at_call 51; (with_reducible refine (HC.out _).mono ?_); rintro e w' ⟨b, rfl, hb, hr, h1, d1, rfl⟩))
  go_returns
  refine ⟨b, rfl, by simp at hb; omega, ?_, (by repeat' (first | (with_reducible exact Grows.refl _) | (with_reducible refine Grows.alloc ?_ _) | (with_reducible refine Grows.drew ?_) | (with_reducible refine Grows.ext ?_ _ _)))⟩
  exact (ext_far (by simp) (by simp at hb ⊢; omega)).trans hr
end Go.Proofs.YtobbphkfdhjmdaaDoor

namespace Go.Proofs.YtobbphkfdhjmdaaDoor
open Go.RowKit

set_option maxRecDepth 100000 in
set_option maxHeartbeats 4000000 in
theorem told_attr1 (m : Int) (j : Nat) (hj : j < 8) (hz : ∀ k, k < j → (bits .and .i64 (bitA k) m == 0) = true) (hnz : (bits .and .i64 (bitA j) m == 0) = false) (w : World) (hg : GL w) : Calls Tryd.prog 29 #[.agg #[.int .i64 39, .int .i64 1, .int .i64 m, .int .i64 0, .int .i64 0, .string ⟨#[]⟩]] w (ToldPost [setA j] w) := by
  obtain ⟨gt, gf, h0⟩ := hg.grows (((Grows.refl w).alloc (.cells #[.int .i64 39, .int .i64 1, .int .i64 m, .int .i64 0, .int .i64 0, .string ⟨#[]⟩] 26)).alloc (.cells #[.slice none 0 0] 38))
  have H0 := Lib.hid h0
  have HZ := Lib.hid hz
  clear hz hg h0
  go_enter Tryd.func29, Tryd.ntmps29
  go_wp2_with ((with_reducible refine wpList_load_row (o := ⟨_, .load 113 (.global 0), _, _, _, _⟩) ?_ 113 (.global 0) ?_ 0 ?_ gt attrsA gf _ ?_ Tryd.underlying113 ?_ ?_ ?_); exact rfl; exact rfl; exact rfl; exact H0.out; exact rfl; exact info113)
  refine abs_worldM (fun W => Grows w W ∧ w.heap.size + 1 < W.heap.size ∧ W.cell? ⟨w.heap.size, 1, none⟩ = some (.int .i64 1) ∧ W.cell? ⟨w.heap.size, 2, none⟩ = some (.int .i64 m) ∧ W.cell? ⟨w.heap.size + 1, 0, none⟩ = some (.slice none 0 0) ∧ W.frozen? ⟨w.heap.size + 1, 0, none⟩ = false) ⟨(by repeat' (first | (with_reducible exact Grows.refl _) | (with_reducible refine Grows.alloc ?_ _) | (with_reducible refine Grows.drew ?_) | (with_reducible refine Grows.ext ?_ _ _))), by simp, by simp [go_sem], by simp [go_sem], by simp [go_sem], by simp [go_sem]⟩ ?_
  rintro W ⟨hG, hs, c1, c2, c3, c4⟩
  obtain ⟨N2, hN2⟩ : ∃ N, N = w.heap.size + 1 := ⟨_, rfl⟩
  obtain ⟨N1, hN1⟩ : ∃ N, N = w.heap.size := ⟨_, rfl⟩
  have hle1 : w.heap.size ≤ N1 := by omega
  have hle2 : w.heap.size ≤ N2 := by omega
  have hne : ¬ N1 = N2 := by omega
  rw [← hN2] at hs c3 c4
  rw [← hN1] at c1 c2
  simp only [← hN2]
  simp only [← hN1]
  have hs1 : N1 < W.heap.size := by omega
  clear hN1 hN2
  have HG := Lib.hid hG
  have C1 := Lib.hid c1
  have C2 := Lib.hid c2
  have C3 := Lib.hid c3
  have C4 := Lib.hid c4
  clear hG c1 c2 c3 c4 H0
  go_loopw [48] (fun i wr' => ∃ (wv : World) (k : Nat), wv = wr' ∧ k ≤ j ∧ i = .int .i64 k ∧ Grows W wv) (fun i _ => j - (intOf i).toNat)
  case atStart => exact ⟨_, 0, rfl, Nat.zero_le _, rfl, Grows.refl _⟩
  case round =>
    obtain ⟨wa, k, rfl, hk, rfl, hGa⟩ := hrel
    have hk8 : k < 8 := by omega
    have e1 : decide ((k : Int) < 8) = true := by simp; omega
    have hix := ix113 k hk8
    have c1 := (hGa.cellOf (i := 1) hs1).trans C1.out
    have c2 := (hGa.cellOf (i := 2) hs1).trans C2.out
    have hsz := hGa.size
    have hs1' : N1 < wa.heap.size := by omega
    have hs2' : N2 < wa.heap.size := by omega
    have HGa := Lib.hid (HG.out.trans hGa)
    have c3 := (hGa.cellOf (i := 0) hs).trans C3.out
    have c4 : wa.frozen? ⟨N2, 0, none⟩ = false := by
      obtain ⟨h, d, rfl⟩ := hGa
      exact (ext_frozen _ _ _ _ _ hs).trans C4.out
    have HGb := Lib.hid hGa
    clear hGa
    by_cases hkj : k < j
    · have e2 := HZ.out k hkj
      clear hnz
      generalize bitA k = bk at *
      generalize setA k = sk at *
      generalize clrA k = ck at *
      go_wp2_with (first | (go_at_call 50; (with_reducible refine (row50_any _ _ _ _).mono ?_); rintro e w' ⟨rfl, h63, d63, rfl⟩))
      go_roundw
      case rel => exact ⟨_, k + 1, rfl, by omega, by go_num, (by repeat' (first | (with_reducible exact HGb.out) | (with_reducible refine Grows.alloc ?_ _) | (with_reducible refine Grows.ext ?_ _ _)))⟩
      case measure => simp [intOf]; omega
    · obtain rfl : k = j := by omega
      generalize bitA k = bk at *
      generalize setA k = sk at *
      generalize clrA k = ck at *
      go_wp2_with (first | (go_at_call 50; (with_reducible refine (row50_any _ _ _ _).mono ?_); rintro e w' ⟨rfl, h64, d64, rfl⟩))
      have hlt2 : N2 < wa.heap.size + 1 + 1 := by omega
      have hlt1 : N2 < wa.heap.size + 1 := by omega
      refine bodyPost_ret (v := .agg #[.slice (some ⟨wa.heap.size + 1, 0, none⟩) 1 1]) (by simp [results, Tryd.results29, go_sem, c3, hs2', hlt1, hlt2]; try rfl) rfl ?_
      refine ⟨wa.heap.size + 1, rfl, by have := HGa.out.size; omega, ?_, (by repeat' (first | (with_reducible exact HGa.out) | (with_reducible refine Grows.alloc ?_ _) | (with_reducible refine Grows.setCell ?_ hle2 _) | (with_reducible refine Grows.ext ?_ _ _)))⟩
      refine (Grows.rowK (row_at (by simp)) ((Grows.refl _).ext _ _)).trans ?_
      simp
set_option maxRecDepth 100000 in
set_option maxHeartbeats 4000000 in
theorem told_attr2 (m : Int) (j : Nat) (hj : j < 8) (hz : ∀ k, k < j → (bits .and .i64 (bitA k) m == 0) = true) (hnz : (bits .and .i64 (bitA j) m == 0) = false) (w : World) (hg : GL w) : Calls Tryd.prog 29 #[.agg #[.int .i64 39, .int .i64 2, .int .i64 m, .int .i64 0, .int .i64 0, .string ⟨#[]⟩]] w (ToldPost [clrA j] w) := by
  obtain ⟨gt, gf, h0⟩ := hg.grows (((Grows.refl w).alloc (.cells #[.int .i64 39, .int .i64 2, .int .i64 m, .int .i64 0, .int .i64 0, .string ⟨#[]⟩] 26)).alloc (.cells #[.slice none 0 0] 38))
  have H0 := Lib.hid h0
  have HZ := Lib.hid hz
  clear hz hg h0
  go_enter Tryd.func29, Tryd.ntmps29
  go_wp2_with ((with_reducible refine wpList_load_row (o := ⟨_, .load 113 (.global 0), _, _, _, _⟩) ?_ 113 (.global 0) ?_ 0 ?_ gt attrsA gf _ ?_ Tryd.underlying113 ?_ ?_ ?_); exact rfl; exact rfl; exact rfl; exact H0.out; exact rfl; exact info113)
  refine abs_worldM (fun W => Grows w W ∧ w.heap.size + 1 < W.heap.size ∧ W.cell? ⟨w.heap.size, 1, none⟩ = some (.int .i64 2) ∧ W.cell? ⟨w.heap.size, 2, none⟩ = some (.int .i64 m) ∧ W.cell? ⟨w.heap.size + 1, 0, none⟩ = some (.slice none 0 0) ∧ W.frozen? ⟨w.heap.size + 1, 0, none⟩ = false) ⟨(by repeat' (first | (with_reducible exact Grows.refl _) | (with_reducible refine Grows.alloc ?_ _) | (with_reducible refine Grows.drew ?_) | (with_reducible refine Grows.ext ?_ _ _))), by simp, by simp [go_sem], by simp [go_sem], by simp [go_sem], by simp [go_sem]⟩ ?_
  rintro W ⟨hG, hs, c1, c2, c3, c4⟩
  obtain ⟨N2, hN2⟩ : ∃ N, N = w.heap.size + 1 := ⟨_, rfl⟩
  obtain ⟨N1, hN1⟩ : ∃ N, N = w.heap.size := ⟨_, rfl⟩
  have hle1 : w.heap.size ≤ N1 := by omega
  have hle2 : w.heap.size ≤ N2 := by omega
  have hne : ¬ N1 = N2 := by omega
  rw [← hN2] at hs c3 c4
  rw [← hN1] at c1 c2
  simp only [← hN2]
  simp only [← hN1]
  have hs1 : N1 < W.heap.size := by omega
  clear hN1 hN2
  have HG := Lib.hid hG
  have C1 := Lib.hid c1
  have C2 := Lib.hid c2
  have C3 := Lib.hid c3
  have C4 := Lib.hid c4
  clear hG c1 c2 c3 c4 H0
  go_loopw [48] (fun i wr' => ∃ (wv : World) (k : Nat), wv = wr' ∧ k ≤ j ∧ i = .int .i64 k ∧ Grows W wv) (fun i _ => j - (intOf i).toNat)
  case atStart => exact ⟨_, 0, rfl, Nat.zero_le _, rfl, Grows.refl _⟩
  case round =>
    obtain ⟨wa, k, rfl, hk, rfl, hGa⟩ := hrel
    have hk8 : k < 8 := by omega
    have e1 : decide ((k : Int) < 8) = true := by simp; omega
    have hix := ix113 k hk8
    have c1 := (hGa.cellOf (i := 1) hs1).trans C1.out
    have c2 := (hGa.cellOf (i := 2) hs1).trans C2.out
    have hsz := hGa.size
    have hs1' : N1 < wa.heap.size := by omega
    have hs2' : N2 < wa.heap.size := by omega
    have HGa := Lib.hid (HG.out.trans hGa)
    have c3 := (hGa.cellOf (i := 0) hs).trans C3.out
    have c4 : wa.frozen? ⟨N2, 0, none⟩ = false := by
      obtain ⟨h, d, rfl⟩ := hGa
      exact (ext_frozen _ _ _ _ _ hs).trans C4.out
    have HGb := Lib.hid hGa
    clear hGa
    by_cases hkj : k < j
    · have e2 := HZ.out k hkj
      clear hnz
      generalize bitA k = bk at *
      generalize setA k = sk at *
      generalize clrA k = ck at *
      go_wp2_with (first | (go_at_call 50; (with_reducible refine (row50_any _ _ _ _).mono ?_); rintro e w' ⟨rfl, h65, d65, rfl⟩))
      go_roundw
      case rel => exact ⟨_, k + 1, rfl, by omega, by go_num, (by repeat' (first | (with_reducible exact HGb.out) | (with_reducible refine Grows.alloc ?_ _) | (with_reducible refine Grows.ext ?_ _ _)))⟩
      case measure => simp [intOf]; omega
    · obtain rfl : k = j := by omega
      generalize bitA k = bk at *
      generalize setA k = sk at *
      generalize clrA k = ck at *
      go_wp2_with (first | (go_at_call 50; (with_reducible refine (row50_any _ _ _ _).mono ?_); rintro e w' ⟨rfl, h66, d66, rfl⟩))
      have hlt2 : N2 < wa.heap.size + 1 + 1 := by omega
      have hlt1 : N2 < wa.heap.size + 1 := by omega
      refine bodyPost_ret (v := .agg #[.slice (some ⟨wa.heap.size + 1, 0, none⟩) 1 1]) (by simp [results, Tryd.results29, go_sem, c3, hs2', hlt1, hlt2]; try rfl) rfl ?_
      refine ⟨wa.heap.size + 1, rfl, by have := HGa.out.size; omega, ?_, (by repeat' (first | (with_reducible exact HGa.out) | (with_reducible refine Grows.alloc ?_ _) | (with_reducible refine Grows.setCell ?_ hle2 _) | (with_reducible refine Grows.ext ?_ _ _)))⟩
      refine (Grows.rowK (row_at (by simp)) ((Grows.refl _).ext _ _)).trans ?_
      simp
end Go.Proofs.YtobbphkfdhjmdaaDoor

namespace Go.Proofs.YtobbphkfdhjmdaaDoor
open Go.RowKit

theorem told_any (p : Pen) (h : okPen p = true) (w : World) (hg : GL w) : Calls Tryd.prog 29 #[.agg #[.int .i64 39, .int .i64 p.n, .int .i64 p.m, .int .i64 p.ck, .int .i64 p.cn, .string ⟨#[]⟩]] w (ToldPost (toldP p) w) := by
  rcases okPen_cases h with rfl | ⟨m, hm, rfl⟩ | ⟨m, hm, rfl⟩ | ⟨m, h0, h5, rfl⟩ | ⟨n, hn, hp⟩
  · exact told_reset w
  · rcases okAttr_cases hm with rfl | rfl | rfl | rfl | rfl | rfl | rfl | rfl
    · exact told_attr1 1 0 (by decide) (by decide +kernel) (by decide +kernel) w hg
    · exact told_attr1 2 1 (by decide) (by decide +kernel) (by decide +kernel) w hg
    · exact told_attr1 4 2 (by decide) (by decide +kernel) (by decide +kernel) w hg
    · exact told_attr1 8 3 (by decide) (by decide +kernel) (by decide +kernel) w hg
    · exact told_attr1 16 4 (by decide) (by decide +kernel) (by decide +kernel) w hg
    · exact told_attr1 32 5 (by decide) (by decide +kernel) (by decide +kernel) w hg
    · exact told_attr1 64 6 (by decide) (by decide +kernel) (by decide +kernel) w hg
    · exact told_attr1 128 7 (by decide) (by decide +kernel) (by decide +kernel) w hg
  · rcases hm with rfl | rfl | rfl | rfl | rfl | rfl | rfl
    · exact told_attr2 3 0 (by decide) (by decide +kernel) (by decide +kernel) w hg
    · exact told_attr2 4 2 (by decide) (by decide +kernel) (by decide +kernel) w hg
    · exact told_attr2 8 3 (by decide) (by decide +kernel) (by decide +kernel) w hg
    · exact told_attr2 16 4 (by decide) (by decide +kernel) (by decide +kernel) w hg
    · exact told_attr2 32 5 (by decide) (by decide +kernel) (by decide +kernel) w hg
    · exact told_attr2 64 6 (by decide) (by decide +kernel) (by decide +kernel) w hg
    · exact told_attr2 128 7 (by decide) (by decide +kernel) (by decide +kernel) w hg
  · by_cases m0 : m = 0
    · subst m0; exact told_off w
    · by_cases m1 : m = 1
      · subst m1; exact told_line w
      · have e : toldP (pen 3 m) = [4, m] := by simp [toldP, pen, m0, m1]
        rw [e]
        exact told_under m w (by omega) h5
  · have hn4 : 4 ≤ n := by omega
    have hn6 : n ≤ 6 := by omega
    rcases hp with rfl | ⟨c, h0, h1, rfl⟩ | ⟨c, h0, h1, rfl⟩
    · have e : toldP (pen n 0) = [38 + 10 * (n - 4) + 1] := by rcases hn with rfl | rfl | rfl <;> rfl
      rw [e]
      exact told_col n 0 0 w _ hn4 fun W => colour_none n 0 0 W hn4 hn6
    · by_cases h6 : n = 6
      · subst h6
        have e : toldP (colored 6 1 c) = [58, 5, c] := by simp [toldP, colored]
        rw [e]
        by_cases c8 : c < 8
        · exact told_col 6 1 c w _ hn4 fun W => colour_line_a 0 c W h0 c8
        · by_cases c16 : c < 16
          · exact told_col 6 1 c w _ hn4 fun W => colour_line_b 0 c W h0 (by omega) c16
          · exact told_col 6 1 c w _ hn4 fun W => colour_line_c 0 c W h0 (by omega) h1
      · have n0 : ¬ n = 0 := by omega
        have n1 : ¬ n = 1 := by omega
        have n2 : ¬ n = 2 := by omega
        have n3 : ¬ n = 3 := by omega
        by_cases c8 : c < 8
        · have e : toldP (colored n 1 c) = [38 + 10 * (n - 4) - 8 + c] := by simp [toldP, colored, n0, n1, n2, n3, c8, h6]
          rw [e]
          exact told_col n 1 c w _ hn4 fun W => colour_eight n 0 c W hn4 hn6 h6 h0 c8
        · by_cases c16 : c < 16
          · have e : toldP (colored n 1 c) = [38 + 10 * (n - 4) + 52 + c - 8] := by
              simp [toldP, colored, n0, n1, n2, n3, c8, c16, h6]
              omega
            rw [e]
            exact told_col n 1 c w _ hn4 fun W => colour_six n 0 c W hn4 hn6 h6 (by omega) c16
          · have e : toldP (colored n 1 c) = [38 + 10 * (n - 4), 5, c] := by simp [toldP, colored, n0, n1, n2, n3, c8, c16]
            rw [e]
            exact told_col n 1 c w _ hn4 fun W => colour_more n 0 c W hn4 hn6 (by omega) h1
    · have e : toldP (colored n 2 c) = [38 + 10 * (n - 4), 2, -1, c / 65536, c / 256 % 256, c % 256] := by rcases hn with rfl | rfl | rfl <;> simp [toldP, colored]
      rw [e]
      exact told_col n 2 c w _ hn4 fun W => colour_rgb n 0 c W hn4 hn6 h0 h1
end Go.Proofs.YtobbphkfdhjmdaaDoor

namespace Go.Proofs.YtobbphkfdhjmdaaDoor
open Go.RowKit

theorem sameL_len : ∀ {la lb : List ActV}, la.length ≠ lb.length → sameL la lb = false
  | [], [], h => absurd rfl h
  | [], _ :: _, _ => rfl
  | _ :: _, [], _ => rfl
  | x :: a, y :: b, h => by
    have ih := sameL_len (la := a) (lb := b) (by simpa using h)
    simp [sameL, ih]
theorem same_len (va vb : Value) (la lb : List ActV) (w : World) (ha : ActsAt w va la) (hb : ActsAt w vb lb) (hlen : la.length ≠ lb.length) : Calls Tryd.prog 23 #[va, vb] w (Ret (.bool false) w) := by
  obtain ⟨a, cap, rfl, -, -⟩ := ha
  obtain ⟨a', cap', rfl, -, -⟩ := hb
  have e : ((la.length : Int) != lb.length) = true := by simp; omega
  generalize la.length = n at *
  generalize lb.length = m at *
  clear hlen
  go_enter Tryd.func23, Tryd.ntmps23
  go_wp2
  go_ret
  exact ⟨rfl, (by repeat' (first | (with_reducible exact Grows.refl _) | (with_reducible refine Grows.alloc ?_ _) | (with_reducible refine Grows.drew ?_) | (with_reducible refine Grows.ext ?_ _ _)))⟩
theorem same_all (va vb : Value) (la lb : List ActV) (hl : la.length ≤ 100000) (hlb : lb.length ≤ 100000) (w : World) (ha : ActsAt w va la) (hb : ActsAt w vb lb) : Calls Tryd.prog 23 #[va, vb] w (Ret (.bool (sameL la lb)) w) := by
  by_cases h : la.length = lb.length
  · exact same_any va vb la lb hl hlb w ha hb h
  · rw [sameL_len h]
    exact same_len va vb la lb w ha hb h
end Go.Proofs.YtobbphkfdhjmdaaDoor

namespace Go.Proofs.YtobbphkfdhjmdaaDoor
open Go.RowKit

theorem emp_list : (⟨#[]⟩ : ByteArray).toList = [] := by decide +kernel
theorem pn_ok {p : Pen} (h : okPen p = true) : pnErr 39 p.n p.m p.ck p.cn ⟨#[]⟩ = 0 ∧ In64 p.m := by
  rcases okPen_cases h with rfl | ⟨m, hm, rfl⟩ | ⟨m, hm, rfl⟩ | ⟨m, h0, h5, rfl⟩ | ⟨n, hn, hp⟩
  · exact ⟨by decide +kernel, by unfold In64 pen; dsimp only; omega⟩
  · rcases okAttr_cases hm with rfl | rfl | rfl | rfl | rfl | rfl | rfl | rfl <;> exact ⟨by decide +kernel, by unfold In64 pen; dsimp only; omega⟩
  · rcases hm with rfl | rfl | rfl | rfl | rfl | rfl | rfl <;> exact ⟨by decide +kernel, by unfold In64 pen; dsimp only; omega⟩
  · obtain rfl | rfl | rfl | rfl | rfl | rfl : m = 0 ∨ m = 1 ∨ m = 2 ∨ m = 3 ∨ m = 4 ∨ m = 5 := by omega
    all_goals exact ⟨by decide +kernel, by unfold In64 pen; dsimp only; omega⟩
  · rcases hp with rfl | ⟨c, h0, h1, rfl⟩ | ⟨c, h0, h1, rfl⟩
    · rcases hn with rfl | rfl | rfl <;> exact ⟨by decide +kernel, by unfold In64 pen; dsimp only; omega⟩
    · refine ⟨?_, by unfold In64 colored; dsimp only; omega⟩
      rcases hn with rfl | rfl | rfl <;> simp [pnErr, pnB, mayB, colB, clOk, colored, h0, h1]
    · refine ⟨?_, by unfold In64 colored; dsimp only; omega⟩
      rcases hn with rfl | rfl | rfl <;> simp [pnErr, pnB, mayB, colB, clOk, colored, h0, h1]
theorem told_ints {w : World} {b : Nat} {l : List Int} (h : w.heap[b]? = some (.cells (l.map (Value.int .i64 ·)).toArray 3 (0, 0))) : IntsAt w (.slice (some ⟨b, 0, none⟩) l.length l.length) l := by
  refine ⟨_, _, rfl, Nat.le_refl _, fun _ => ⟨b, 0, rfl, (Array.getElem?_eq_some_iff.1 h).1, fun i hi => ?_⟩⟩
  rw [Nat.zero_add, cell_of_row w b i _ 3 (0, 0) h]
  simp [hi]
theorem cell_at {w : World} {v : Value} {t : TypeId} {n : Nat} (h : w.heap.size = n) : ∀ j u, [v][j]? = some u → (w.alloc (.cells #[v] t)).cell? ((⟨n, 0, none⟩ : Addr).add j) = some u := h ▸ cell_one_new w v t
theorem infoPar : (Tryd.prog.info? 38).map (fun i => (i.zero, i.size, i.bytes)) = some (some (.agg #[.slice none 0 0]), 1, 24) := by kernel_rfl
end Go.Proofs.YtobbphkfdhjmdaaDoor

namespace Go.Proofs.YtobbphkfdhjmdaaDoor
open Go.RowKit

set_option maxRecDepth 100000 in
set_option maxHeartbeats 8000000 in
theorem params_ok (v : Value) (l : List Pen) (w : World) (h : ActsAt w v (l.map actP)) (hok : ∀ p ∈ l, okPen p = true) (hl : l.length ≤ 16) (hg : GL w) : Calls Tryd.prog 13 #[v] w (fun e w' => ∃ x, e = .returned (.tuple #[x, .int .i64 0]) ∧ RowAt w' x (l.map toldP) ∧ Grows w w') := by
  obtain ⟨a, cap, rfl, -, hin⟩ := h
  obtain ⟨i0, hi, hz0, hz1, hz2⟩ := info_parts infoPar
  have Hin := Lib.hid hin
  have HGL := Lib.hid hg
  clear hin hg
  simp only [List.length_map]
  go_enter Tryd.func13, Tryd.ntmps13
  go_wp2_with fail
  go_loopw [2, 11] (fun x i wr' => ∃ (wv : World) (k : Nat), wv = wr' ∧ k ≤ l.length ∧ i = .int .i64 k ∧ x = .slice none 0 0 ∧ Grows w wv) (fun _ i _ => l.length - (intOf i).toNat)
  case atStart => exact ⟨_, 0, rfl, Nat.zero_le _, rfl, rfl, Grows.refl _⟩
  case round =>
    obtain ⟨wa, k, rfl, hk, rfl, rfl, hG⟩ := hrel
    by_cases hlt : k < l.length
    · have e1 : decide (k < l.length) = true := by simpa using hlt
      have hk' : (l.map actP)[k]?.getD actD = actP (l[k]'hlt) := by simp [hlt]
      obtain ⟨b, off, rfl, hb, hc⟩ := (Hin.out.grows hG) (by intro e; simp at e; rw [e] at hlt; simp at hlt)
      obtain ⟨c0, c1, c2, c3, c4, c5⟩ := hc k (by simpa using hlt)
      rw [hk'] at c0 c1 c2 c3 c4 c5
      have hp := hok (l[k]'hlt) (List.getElem_mem hlt)
      obtain ⟨hpn, hpm⟩ := pn_ok hp
      have HC := Lib.hid fun W => checkPen_any 39 (l[k]'hlt).n (l[k]'hlt).m (l[k]'hlt).ck (l[k]'hlt).cn ⟨#[]⟩ hpm W
      rw [hpn] at HC
      have HG := Lib.hid hG
      clear hpn hpm hp hk' hc hok hG
      generalize l[k]'hlt = p at *
      simp only [actP] at c0 c1 c2 c3 c4 c5
      obtain ⟨pn, pm, pck, pcn⟩ := p
      dsimp only at c0 c1 c2 c3 c4 c5 HC
      go_wp2_with (first | (go_at_call 28; (with_reducible refine (HC.out _).mono ?_); rintro e w' ⟨rfl, h68, d68, rfl⟩))
      go_roundw
      case rel => exact ⟨_, k + 1, rfl, by omega, by go_num, rfl, (by repeat' (first | (with_reducible exact HG.out) | (with_reducible refine Grows.alloc ?_ _) | (with_reducible refine Grows.ext ?_ _ _)))⟩
      case measure => simp [intOf]; omega
    · have e1 : decide (k < l.length) = false := by simp; omega
      have e2 : decide ((l.length : Int) > 16) = false := by simp; omega
      go_wp2_with fail
      refine abs_worldM (fun W => Grows w W) hG ?_
      clear hG hk hlt e1
      rintro w0 hG0
      have HG0 := Lib.hid hG0
      clear hG0
      go_loopw [2, 26] (fun x i wr' => ∃ (wv : World) (k : Nat) (vs : List Value), wv = wr' ∧ k ≤ l.length ∧ i = .int .i64 k ∧ Grows w wv ∧ OwnRow w.heap.size 38 wv x ((l.take k).map toldP) vs) (fun _ i _ => l.length - (intOf i).toNat)
      case atStart => exact ⟨_, 0, [], rfl, Nat.zero_le _, rfl, HG0.out, OwnRow.nil _ _ _⟩
      case round =>
        obtain ⟨wa, k, vs, rfl, hk, rfl, hG, hO⟩ := hrel
        by_cases hlt : k < l.length
        · have e1 : decide (k < l.length) = true := by simpa using hlt
          have hk' : (l.map actP)[k]?.getD actD = actP (l[k]'hlt) := by simp [hlt]
          obtain ⟨b, off, rfl, hb, hc⟩ := (Hin.out.grows hG) (by intro e; simp at e; rw [e] at hlt; simp at hlt)
          obtain ⟨c0, c1, c2, c3, c4, c5⟩ := hc k (by simpa using hlt)
          rw [hk'] at c0 c1 c2 c3 c4 c5
          have hp := hok (l[k]'hlt) (List.getElem_mem hlt)
          have HT := Lib.hid fun W hW => told_any (l[k]'hlt) hp W hW
          have HG := Lib.hid hG
          have HX := Lib.hid (show (l.take (k + 1)).map toldP = (l.take k).map toldP ++ [toldP (l[k]'hlt)] by rw [List.take_succ_eq_append_getElem hlt, List.map_append, List.map_singleton])
          have HL := Lib.hid (show ((l.take k).map toldP).length = k by simp; omega)
          have hnl : (toldP (l[k]'hlt)).length ≤ 6 := (okPart_iff.1 (told_okPart hp)).2.1
          clear hp hk' hc hok
          generalize hpq : l[k]'hlt = p at *
          simp only [actP] at c0 c1 c2 c3 c4 c5
          generalize hq : toldP p = q at *
          generalize hrr : (l.take k).map toldP = rr at *
          obtain ⟨pn, pm, pck, pcn⟩ := p
          dsimp only at c0 c1 c2 c3 c4 c5 HT
          have hw0 : w.heap.size ≤ wa.heap.size := hG.size
          have hrl : rr.length ≤ 15 := by have := HL.out; omega
          clear hG
          go_wp2_with (first | (go_at_call 29; (with_reducible refine (HT.out _ (HGL.out.grows ?_)).mono ?_); exact (by repeat' (first | (with_reducible exact HG.out) | (with_reducible refine Grows.alloc ?_ _) | (with_reducible refine Grows.ext ?_ _ _))); rintro e w' ⟨bt, rfl, hbt, hr, h1, d1, rfl⟩) | (at_builtin; refine wpList_append_own_at _ rfl (.tmp 30) (.tmp 33) 29 rfl w.heap.size 38 i0 (.agg #[.slice none 0 0]) 1 24 Tryd.underlying29 hi hz0 hz1 hz2 rfl (by decide) _ _ _ rfl (((hO.grows (by repeat' (first | (with_reducible exact Grows.refl _) | (with_reducible refine Grows.alloc ?_ _) | (with_reducible refine Grows.drew ?_) | (with_reducible refine Grows.ext ?_ _ _)))).1).alloc _) ⟨wa.heap.size + 1 + h1.size, 0, none⟩ 1 1 [.slice (some ⟨bt, 0, none⟩) q.length q.length] rfl rfl (cell_at (by simp)) (by simp [Value.oneCell']) (by unfold maxLen; omega) (by omega) (by simp; omega) ?_; intro v' w1 hown' hgrow _ hat))
          have hsz := hO.1.lt
          have hO2 := (hO.grows (by repeat' (first | (with_reducible exact Grows.refl _) | (with_reducible refine Grows.alloc ?_ _) | (with_reducible refine Grows.drew ?_) | (with_reducible refine Grows.ext ?_ _ _)))).snoc (told_ints hr) (fun b' e => by
            injection e with e
            subst e
            refine ⟨(Array.getElem?_eq_some_iff.1 hr).1, fun e2 => ?_⟩
            have := (hsz _ e2).2
            simp at hbt
            dsimp only at this e2
            omega) hown' hgrow (hat.elim (fun h => .inl h) (fun h => .inr (h.trans (by simp))))
          rw [← HX.out] at hO2
          have hG2 : Grows w w1 := Grows.of_below ((HG.out.trans (by repeat' (first | (with_reducible exact Grows.refl wa) | (with_reducible refine Grows.alloc ?_ _) | (with_reducible refine Grows.ext ?_ _ _)))).below.grown hgrow (by simp; omega) (fun q e => (hsz q e).1))
          clear hgrow hown' hat hO
          go_wp2_with fail
          go_roundw
          case rel => exact ⟨_, k + 1, _, rfl, by omega, by go_num, hG2, hO2⟩
          case measure => simp [intOf]; omega
        · have e1 : decide (k < l.length) = false := by simp; omega
          go_wp2_with fail
          go_ret2
          have e : l.take k = l := List.take_of_length_le (by omega)
          rw [e] at hO
          exact ⟨_, rfl, hO.at_, hG⟩
end Go.Proofs.YtobbphkfdhjmdaaDoor

namespace Go.Proofs.YtobbphkfdhjmdaaDoor
open Go.RowKit

def errA (a : ActV) : Int := pnErr a.kd a.n a.m a.ck a.cn a.s
def errs : List ActV → Int
  | [] => 0
  | a :: l => if errA a = 0 then errs l else errA a
def errOf (l : List ActV) : Int := if errs l = 0 then 3 else errs l
theorem errs_drop (l : List ActV) (k : Nat) (h : k < l.length) : errs (l.drop k) = if errA l[k] = 0 then errs (l.drop (k + 1)) else errA l[k] := by
  rw [List.drop_eq_getElem_cons h]; rfl
set_option maxRecDepth 100000 in
set_option maxHeartbeats 8000000 in
theorem params_err (v : Value) (l : List ActV) (w : World) (h : ActsAt w v l) (hok : ∀ a ∈ l, In64 a.m) (hb : l.length ≤ maxLen) (hl : errs l ≠ 0 ∨ 16 < l.length) : Calls Tryd.prog 13 #[v] w (fun e w' => e = .returned (.tuple #[.slice none 0 0, .int .i64 (errOf l)]) ∧ Grows w w') := by
  unfold maxLen at hb
  obtain ⟨a, cap, rfl, -, hin⟩ := h
  have Hin := Lib.hid hin
  have Hl := Lib.hid hl
  clear hin hl
  go_enter Tryd.func13, Tryd.ntmps13
  go_wp2_with fail
  go_loopw [2, 3, 6, 11] (fun x e e6 i wr' => ∃ (wv : World) (k : Nat), wv = wr' ∧ k ≤ l.length ∧ i = .int .i64 k ∧ Grows w wv ∧ errs l = errs (l.drop k)) (fun _ _ _ i _ => l.length - (intOf i).toNat)
  case atStart => exact ⟨_, 0, rfl, Nat.zero_le _, rfl, Grows.refl _, rfl⟩
  case round =>
    obtain ⟨wa, k, rfl, hk, rfl, hG, hE⟩ := hrel
    by_cases hlt : k < l.length
    · have e1 : decide (k < l.length) = true := by simpa using hlt
      have hk' : l[k]?.getD actD = l[k]'hlt := by simp [hlt]
      have hstep := errs_drop l k hlt
      have hp := hok (l[k]'hlt) (List.getElem_mem hlt)
      obtain ⟨b, off, rfl, hbb, hc⟩ := (Hin.out.grows hG) (by intro e; rw [e] at hlt; simp at hlt)
      obtain ⟨c0, c1, c2, c3, c4, c5⟩ := hc k (by simpa using hlt)
      rw [hk'] at c0 c1 c2 c3 c4 c5
      have HC := Lib.hid fun W => checkPen_any (l[k]'hlt).kd (l[k]'hlt).n (l[k]'hlt).m (l[k]'hlt).ck (l[k]'hlt).cn (l[k]'hlt).s hp W
      have HG := Lib.hid hG
      unfold errA at hstep
      clear hk' hc hok hG hp hbb
      generalize l[k]'hlt = p at *
      obtain ⟨pkd, pn, pm, pck, pcn, ps⟩ := p
      dsimp only at c0 c1 c2 c3 c4 c5 HC hstep
      generalize pnErr pkd pn pm pck pcn ps = er at *
      by_cases her : er = 0
      · have e2 : decide (er = 0) = true := by simpa using her
        rw [if_pos her] at hstep
        have HE := Lib.hid (hE.trans hstep)
        clear hE hstep
        subst her
        go_wp2_with (first | (go_at_call 28; (with_reducible refine (HC.out _).mono ?_); rintro e w' ⟨rfl, h69, d69, rfl⟩))
        go_roundw
        case rel => exact ⟨_, k + 1, rfl, by omega, by go_num, (by repeat' (first | (with_reducible exact HG.out) | (with_reducible refine Grows.alloc ?_ _) | (with_reducible refine Grows.ext ?_ _ _))), HE.out⟩
        case measure => simp [intOf]; omega
      · have e2 : decide (er = 0) = false := by simpa using her
        rw [if_neg her] at hstep
        have HE := Lib.hid (hE.trans hstep)
        clear hE hstep
        go_wp2_with (first | (go_at_call 28; (with_reducible refine (HC.out _).mono ?_); rintro e w' ⟨rfl, h70, d70, rfl⟩))
        go_ret2
        have HEo := HE.out
        have key : errOf l = er := by unfold errOf; rw [HEo, if_neg her]
        refine ⟨?_, (by repeat' (first | (with_reducible exact HG.out) | (with_reducible refine Grows.alloc ?_ _) | (with_reducible refine Grows.ext ?_ _ _)))⟩
        first | (rw [key]; rfl) | (rw [HEo]; rfl) | (simp only [key]; rfl) | (trace_state; fail)
    · have e1 : decide (k < l.length) = false := by simp; omega
      have hE0 : errs l = 0 := by rw [hE, List.drop_eq_nil_of_le (by omega)]; rfl
      have hlen : 16 < l.length := Hl.out.resolve_left (fun e => e hE0)
      have e2 : decide ((l.length : Int) > 16) = true := by simp; omega
      go_wp2_with fail
      go_ret2
      have key : errOf l = 3 := by unfold errOf; rw [if_pos hE0]
      rw [key]
      exact ⟨rfl, hG⟩
end Go.Proofs.YtobbphkfdhjmdaaDoor

