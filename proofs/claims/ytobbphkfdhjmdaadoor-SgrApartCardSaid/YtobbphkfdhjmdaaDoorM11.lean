/-
  Appended rows; change. Step of the empty row. Step of a row that is not empty. Step, whole. Parse.
-/
import Derived.Test.YtobbphkfdhjmdaaDoorRows
import Derived.Test.YtobbphkfdhjmdaaDoorM1
import Derived.Test.YtobbphkfdhjmdaaDoorM3
import Derived.Test.YtobbphkfdhjmdaaDoorM9
import Derived.WalkKit
import Derived.WalkSpells
import Derived.WalkLawsBesides
import Derived.Handy
import Derived.Laws.Rows
import Derived.Great.BuildSlice
import Derived.Deep.Heap
import Derived.IntWalk
import Derived.Lib.Hide
import Derived.Outline
import Derived.Deep.Light
import Derived.Deep.LoopGhost
import Derived.BigGuardPart
import Derived.BigQuiet
import Derived.Deep.QuietTactic
import Derived.Deep.RegionHeld3
import Derived.Deep.DeepCutAuto
import Derived.OwnWalk
import Derived.Maps.AppendAt
import Derived.ArgAppend
import Derived.Deep.RegionLawGrows
import Derived.Test.YtobbphkfdhjmdaaDoorM2
namespace Go.Proofs.YtobbphkfdhjmdaaDoor
open Go.RowKit

theorem RowIn.vals {w : World} {a : Option Addr} {r : List (List Int)} (h : RowIn w a r) (hr : r ≠ []) : ∃ (b off : Nat) (vs : List Value), a = some ⟨b, off, none⟩ ∧ b < w.heap.size ∧ vs.length = r.length ∧ ∀ i, i < r.length → ∃ s, vs[i]? = some s ∧ w.cell? ⟨b, off + i, none⟩ = some s ∧ IntsAt w s (r[i]?.getD []) := by
  obtain ⟨b, off, ha, hb, hc⟩ := h hr
  refine ⟨b, off, (List.range r.length).map (fun i => if hi : i < r.length then Classical.choose (hc i hi) else undef), ha, hb, by simp, fun i hi => ⟨Classical.choose (hc i hi), by simp [hi], (Classical.choose_spec (hc i hi)).1, (Classical.choose_spec (hc i hi)).2⟩⟩
theorem row_of_owns {base : Nat} {t : TypeId} {w : World} {v : Value} {r : List (List Int)} {vs : List Value} (h : w.ownsRow base t 1 v r.length vs) (h2 : ∀ i, i < r.length → ∃ s, vs[i]? = some s ∧ IntsAt w s (r[i]?.getD [])) : RowAt w v r := by
  obtain ⟨hl, h1⟩ := h
  rcases h1 with ⟨rfl, h3⟩ | ⟨g, cap, cur, rfl, hb, hh, hc, hm, hs, ht⟩
  · obtain rfl : r = [] := List.length_eq_zero_iff.1 h3
    exact RowAt.nil w
  · refine ⟨_, cap, rfl, hc, fun _ => ⟨g, 0, rfl, (Array.getElem?_eq_some_iff.1 hh).1, fun i hi => ?_⟩⟩
    obtain ⟨s, hs1, hs2⟩ := h2 i hi
    refine ⟨s, ?_, hs2⟩
    rw [Nat.zero_add, cell_of_row w g i cur t (0, 0) hh]
    have h4 : (cur.toList.take (r.length * 1))[i]? = vs[i]? := by rw [ht]
    rw [List.getElem?_take, if_pos (by omega), hs1] at h4
    simpa using h4
theorem ints_of_owns {base : Nat} {t : TypeId} {w : World} {v : Value} {l : List Int} (h : w.ownsRow base t 1 v l.length (l.map (Value.int .i64 ·))) : IntsAt w v l := by
  obtain ⟨hl, h1⟩ := h
  rcases h1 with ⟨rfl, h3⟩ | ⟨g, cap, cur, rfl, hb, hh, hc, hm, hs, ht⟩
  · obtain rfl : l = [] := List.length_eq_zero_iff.1 h3
    exact IntsAt.nil w
  · refine ⟨_, cap, rfl, hc, fun _ => ⟨g, 0, rfl, (Array.getElem?_eq_some_iff.1 hh).1, fun i hi => ?_⟩⟩
    rw [Nat.zero_add, cell_of_row w g i cur t (0, 0) hh]
    have h4 : (cur.toList.take (l.length * 1))[i]? = (l.map (Value.int .i64 ·))[i]? := by rw [ht]
    rw [List.getElem?_take, if_pos (by omega)] at h4
    simpa [hi] using h4
theorem grows_by {w w' : World} (h : w.grownBy w' none) : Grows w w' := Grows.of_below ((Below.refl _ w).grown h (Nat.le_refl _) (fun k e => by cases e))
theorem info3t : (Tryd.prog.info? 3).map (fun i => (i.zero, i.size, i.bytes)) = some (some (.int .i64 0), 1, 8) := by kernel_rfl
/-- A new row: the old one's slices, and one more. -/
theorem row_more {w0 w w' : World} {base : Nat} {t : TypeId} {v' : Value} {r : List (List Int)} {p : List Int} {s : Value} {vs : List Value} (hl : vs.length = r.length) (hv : ∀ i, i < r.length → ∃ s, vs[i]? = some s ∧ IntsAt w0 s (r[i]?.getD [])) (hs : IntsAt w s p) (g0 : Grows w0 w') (g : Grows w w') (h : w'.ownsRow base t 1 v' (r.length + 1) (vs ++ [s])) : RowAt w' v' (r ++ [p]) := by
  refine row_of_owns (base := base) (t := t) (vs := vs ++ [s]) (by simpa using h) fun i hi => ?_
  simp only [List.length_append, List.length_singleton] at hi
  by_cases hir : i < r.length
  · obtain ⟨q, hq1, hq2⟩ := hv i hir
    exact ⟨q, by rw [List.getElem?_append_left (by omega)]; exact hq1, by rw [List.getElem?_append_left hir]; exact hq2.grows g0⟩
  · obtain rfl : i = r.length := by omega
    exact ⟨s, by rw [← hl]; simp, by simpa using hs.grows g⟩
theorem ints_cells {w : World} {b off : Nat} {l : List Int} (h : ∀ i, i < l.length → w.cell? ⟨b, off + i, none⟩ = some (.int .i64 (l[i]?.getD 0))) (n : Nat) : ∀ b', some (⟨b, off, none⟩ : Addr) = some b' → ∀ j u, ((l.take n).map (Value.int .i64 ·))[j]? = some u → w.cell? (b'.add j) = some u := by
  rintro b' e j u hj
  injection e with e
  subst e
  rw [Addr.add_lit]
  by_cases hn : j < l.length
  · rw [h j hn]
    by_cases hjn : j < n
    · rw [List.getElem?_map, List.getElem?_take, if_pos hjn] at hj
      simpa [hn] using hj
    · rw [List.getElem?_eq_none (by simp; omega)] at hj
      cases hj
  · rw [List.getElem?_eq_none (by simp; omega)] at hj
    cases hj
theorem cells_grows {w w' : World} {b off : Nat} {vs : List Value} (hb : b < w.heap.size) (g : Grows w w') (h : ∀ b', some (⟨b, off, none⟩ : Addr) = some b' → ∀ j u, vs[j]? = some u → w.cell? (b'.add j) = some u) : ∀ b', some (⟨b, off, none⟩ : Addr) = some b' → ∀ j u, vs[j]? = some u → w'.cell? (b'.add j) = some u := by
  rintro b' e j u hj
  have := h b' e j u hj
  injection e with e
  subst e
  rw [Addr.add_lit] at this ⊢
  exact (g.cellOf hb).trans this
set_option maxRecDepth 100000 in
set_option maxHeartbeats 4000000 in
theorem change81 (v : Value) (q : List Int) (y tt : Int) (w : World) (hq : q.length ≤ 1000) (h : IntsAt w v (q ++ [y])) : Calls Tryd.prog 81 #[v, .int .i64 tt] w (fun e w' => ∃ x, e = .returned x ∧ IntsAt w' x (q ++ [tt]) ∧ Grows w w') := by
  obtain ⟨i0, hi, hz0, hz1, hz2⟩ := info_parts info3t
  obtain ⟨a, cap, rfl, hcap, hin⟩ := h
  obtain ⟨b, off, rfl, hb, hc⟩ := hin (by simp)
  have holds := ints_cells hc q.length
  rw [List.take_left] at holds
  have hlen : (q ++ [y]).length = q.length + 1 := by simp
  rw [hlen] at hcap ⊢
  have e1 : (q.length : Int) ≤ cap := by omega
  go_enter Tryd.func81, Tryd.ntmps81
  go_wp2_with (at_builtin; (refine wpList_append_grows _ rfl (.tmp 12) (.tmp 14) 36 rfl 3 i0 (.int .i64 0) 1 8 Tryd.underlying36 hi hz0 hz1 hz2 rfl (by decide) (some ⟨b, off, none⟩) q.length q.length (q.map (Value.int .i64 ·)) rfl (fun h => by cases h) (by simp) (cells_grows hb (by repeat' (first | (with_reducible exact Grows.refl _) | (with_reducible refine Grows.alloc ?_ _) | (with_reducible refine Grows.drew ?_) | (with_reducible refine Grows.ext ?_ _ _))) holds) ⟨w.heap.size, 0, none⟩ 1 1 [.int .i64 tt] rfl rfl (cell_one_new _ _ _) (by simp [Value.oneCell']) (by omega) (by unfold maxLen; omega) (by omega) ?_); intro v' w' hown hgrow)
  go_ret
  exact ⟨_, rfl, ints_of_owns (base := w.heap.size + 1) (t := 3) (by simpa using hown), ((Grows.refl w).alloc _).trans (grows_by hgrow)⟩
set_option maxRecDepth 100000 in
set_option maxHeartbeats 4000000 in
theorem change80 (v s : Value) (r : List (List Int)) (p0 p : List Int) (w : World) (hr : r.length ≤ 1000) (h : RowAt w v (r ++ [p0])) (hs : IntsAt w s p) : Calls Tryd.prog 80 #[v, .agg #[s]] w (fun e w' => ∃ x, e = .returned x ∧ RowAt w' x (r ++ [p]) ∧ Grows w w') := by
  obtain ⟨i0, hi, hz0, hz1, hz2⟩ := info_parts infoPar
  obtain ⟨a, cap, rfl, hcap, hin⟩ := h
  obtain ⟨b, off, vs, rfl, hb, hvl, hv⟩ := hin.vals (by simp)
  have hlen : (r ++ [p0]).length = r.length + 1 := by simp
  rw [hlen] at hcap hvl hv ⊢
  have e1 : (r.length : Int) ≤ cap := by omega
  have hvt : (vs.take r.length).length = r.length := by simp; omega
  have hvr : ∀ i, i < r.length → ∃ s, (vs.take r.length)[i]? = some s ∧ IntsAt w s (r[i]?.getD []) := fun i hi => by
    obtain ⟨s, h1, -, h3⟩ := hv i (by omega)
    rw [List.getElem?_append_left hi] at h3
    exact ⟨s, by rw [List.getElem?_take, if_pos hi]; exact h1, h3⟩
  have holds : ∀ b', some (⟨b, off, none⟩ : Addr) = some b' → ∀ j u, (vs.take r.length)[j]? = some u → w.cell? (b'.add j) = some u := by
    rintro b' e j u hj
    injection e with e
    subst e
    have hjl : j < r.length := by
      have := (List.getElem?_eq_some_iff.1 hj).1
      omega
    obtain ⟨s, h1, h2, -⟩ := hv j (by omega)
    rw [List.getElem?_take, if_pos hjl, h1] at hj
    rw [Addr.add_lit, h2, hj]
  obtain ⟨sa, scap, rfl, hsc, hsi⟩ := id hs
  have HO := Lib.hid fun W g => cells_grows (w' := W) hb g holds
  clear holds hv hin
  go_enter Tryd.func80, Tryd.ntmps80
  go_wp2_with fail
  go_region_law (refine step_append_grows rfl (.tmp 12) (.tmp 14) 29 rfl 38 i0 (.agg #[.slice none 0 0]) 1 24 Tryd.underlying29 hi hz0 hz1 hz2 rfl (by decide) (some ⟨b, off, none⟩) r.length r.length (vs.take r.length) (by simp [Act.eval]) (fun h => by cases h) (by simpa using hvt) (HO.out _ (by repeat' (first | (with_reducible exact Grows.refl _) | (with_reducible refine Grows.alloc ?_ _) | (with_reducible refine Grows.drew ?_) | (with_reducible refine Grows.ext ?_ _ _)))) ⟨w.heap.size + 1, 0, none⟩ 1 1 [.slice sa p.length scap] (by simp [Act.eval]) rfl (cell_at (by simp)) (by simp [Value.oneCell']) (by omega) (by unfold maxLen; omega) (by omega) ?_; intro v' w' hown hgrow)
  all_goals go_wp2
  all_goals go_ret
  all_goals exact ⟨_, rfl, row_more hvt hvr hs (Grows.trans (by repeat' (first | (with_reducible exact Grows.refl _) | (with_reducible refine Grows.alloc ?_ _) | (with_reducible refine Grows.drew ?_) | (with_reducible refine Grows.ext ?_ _ _))) (grows_by hgrow)) (Grows.trans (by repeat' (first | (with_reducible exact Grows.refl _) | (with_reducible refine Grows.alloc ?_ _) | (with_reducible refine Grows.drew ?_) | (with_reducible refine Grows.ext ?_ _ _))) (grows_by hgrow)) hown, Grows.trans (by repeat' (first | (with_reducible exact Grows.refl _) | (with_reducible refine Grows.alloc ?_ _) | (with_reducible refine Grows.drew ?_) | (with_reducible refine Grows.ext ?_ _ _))) (grows_by hgrow)⟩
set_option maxHeartbeats 4000000 in
theorem step79 (v s : Value) (r : List (List Int)) (p0 p : List Int) (C : Nat) (w : World) (hr : r.length ≤ 1000) (hc : w.cell? ⟨C, 0, none⟩ = some v) (h : RowAt w v (r ++ [p0])) (hs : IntsAt w s p) : Calls Tryd.prog 79 #[s, .pointer (some ⟨C, 0, none⟩)] w (fun e w' => ∃ x, e = .returned (.tuple #[x, .int .i64 0]) ∧ RowAt w' x (r ++ [p]) ∧ Grows w w') := by
  have HC := Lib.hid (change80 v s r p0 p w hr h hs)
  obtain ⟨a, cap, rfl, hcap, hin⟩ := h
  obtain ⟨sa, scap, rfl, hsc, hsi⟩ := id hs
  have hlen : (r ++ [p0]).length = r.length + 1 := by simp
  rw [hlen] at HC hc
  go_enter Tryd.func79, Tryd.ntmps79
  go_wp2_with (go_at_call 80; (with_reducible refine (HC.out).mono ?_); rintro e w' ⟨x, rfl, hx, hg⟩)
  go_ret2
  exact ⟨_, rfl, hx, hg⟩
end Go.Proofs.YtobbphkfdhjmdaaDoor

namespace Go.Proofs.YtobbphkfdhjmdaaDoor
open Go.RowKit

theorem stepR_eq {r : List (List Int)} (h : okRow r = true) (c : UInt8) : stepR r c = stepC (if r.isEmpty then [[-1]] else r) c := by
  unfold stepR stepC
  rw [if_pos h]
theorem step_bad (v : Value) (r : List (List Int)) (z : Int) (hl : r.length ≤ 100000) (hp : ∀ p ∈ r, p.length ≤ 100000) (w : World) (hok : okRow r = false) (h : RowAt w v r) : Calls Tryd.prog 43 #[v, .int .u8 z] w (Ret (.tuple #[.slice none 0 0, .int .i64 150]) w) := by
  have HC := Lib.hid fun W (hW : Grows w W) => check_row v r hl hp W (h.grows hW)
  have he : pensErr r = 150 := by simp [pensErr, hok]
  rw [he] at HC
  obtain ⟨a, cap, rfl, hcap, hin⟩ := h
  go_enter Tryd.func43, Tryd.ntmps43
  go_wp2_with (first | (go_at_call 27; (with_reducible refine (HC.out _ (by repeat' (first | (with_reducible exact Grows.refl _) | (with_reducible refine Grows.alloc ?_ _) | (with_reducible refine Grows.drew ?_) | (with_reducible refine Grows.ext ?_ _ _)))).mono ?_); rintro e w' ⟨rfl, h75, d75, rfl⟩))
  go_returns
  exact ⟨rfl, (by repeat' (first | (with_reducible exact Grows.refl _) | (with_reducible refine Grows.alloc ?_ _) | (with_reducible refine Grows.drew ?_) | (with_reducible refine Grows.ext ?_ _ _)))⟩
theorem dig_eq (y z : Int) : min (max 0 y * 10 + (z - 48)) 9999 = (if 9999 < (if 0 < y then y else 0) * 10 + (z - 48) then 9999 else (if 0 < y then y else 0) * 10 + (z - 48)) := by
  by_cases h : 0 < y
  · simp only [h, if_true]
    split <;> omega
  · simp only [h, if_false]
    split <;> omega
/-- The row with which the step goes on, in the box. -/
structure At1 (w W : World) (B : Nat) (R : List (List Int)) (q : List Int) (y : Int) : Prop where
  grows : Grows w W
  box : ∃ v1, Boxed W B 29 v1 ∧ RowAt W v1 (R ++ [q ++ [y]])
theorem at1_new {w W : World} {b1 b2 B : Nat} (hg : Grows w W) (h0 : W.heap[B]? = some (.cells #[.slice (some ⟨b2, 0, none⟩) 1 1] 29 (0, 0))) (h1 : W.heap[b1]? = some (.cells #[.int .i64 (-1)] 3 (0, 0))) (h2 : W.heap[b2]? = some (.cells #[.slice (some ⟨b1, 0, none⟩) 1 1] 38 (0, 0))) : At1 w W B [] [] (-1) :=
  ⟨hg, _, h0, ⟨_, 1, rfl, Nat.le_refl _, fun _ => ⟨b2, 0, rfl, (Array.getElem?_eq_some_iff.1 h2).1, fun i hi => by
    obtain rfl : i = 0 := by simpa using hi
    exact ⟨_, (cell_of_row W b2 0 _ 38 (0, 0) h2).trans rfl, told_ints (l := [-1]) h1⟩⟩⟩⟩
theorem at1_nil (w : World) (h : Array Obj) (d : Nat) : At1 w (((ext (w.alloc (.cells #[.slice (some ⟨w.heap.size + 1 + h.size + 1, 0, none⟩) 1 1] 29)) h d).alloc (.cells #[.int .i64 (-1)] 3)).alloc (.cells #[.slice (some ⟨w.heap.size + 1 + h.size, 0, none⟩) 1 1] 38)) w.heap.size [] [] (-1) := by
  refine at1_new (b1 := w.heap.size + 1 + h.size) (b2 := w.heap.size + 1 + h.size + 1) (by repeat' (first | (with_reducible exact Grows.refl _) | (with_reducible refine Grows.alloc ?_ _) | (with_reducible refine Grows.drew ?_) | (with_reducible refine Grows.ext ?_ _ _))) (boxed_grows (Boxed.new w 29 _) (by repeat' (first | (with_reducible exact Grows.refl _) | (with_reducible refine Grows.alloc ?_ _) | (with_reducible refine Grows.drew ?_) | (with_reducible refine Grows.ext ?_ _ _)))) ?_ ?_
  · obtain ⟨X, hX⟩ : ∃ X, ext (w.alloc (.cells #[.slice (some ⟨w.heap.size + 1 + h.size + 1, 0, none⟩) 1 1] 29)) h d = X := ⟨_, rfl⟩
    have e : X.heap.size = w.heap.size + 1 + h.size := by rw [← hX]; simp
    rw [hX, ← e]
    exact (Below.heap_alloc _ _ _ (by simp)).trans (heap_alloc_new X _)
  · obtain ⟨X, hX⟩ : ∃ X, (ext (w.alloc (.cells #[.slice (some ⟨w.heap.size + 1 + h.size + 1, 0, none⟩) 1 1] 29)) h d).alloc (.cells #[.int .i64 (-1)] 3) = X := ⟨_, rfl⟩
    have e : X.heap.size = w.heap.size + 1 + h.size + 1 := by rw [← hX]; simp
    rw [hX, ← e]
    exact heap_alloc_new X _
set_option maxRecDepth 100000 in
set_option maxHeartbeats 8000000 in
theorem step_nil_A (a : Option Addr) (cap : Nat) (R : List (List Int)) (q : List Int) (y z : Int) (w : World) (hR : R = []) (hq : q = []) (hy : y = -1) (e1 : (z == 59) = true) (e2 : decide ((R.length : Int) + 1 < 16) = true) : Calls Tryd.prog 43 #[.slice a 0 cap, .int .u8 z] w (fun e w' => ∃ x, e = .returned (.tuple #[x, .int .i64 0]) ∧ RowAt w' x (R ++ [q ++ [y]] ++ [[-1]]) ∧ Grows w w') := by
  have HC := Lib.hid fun W (_ : Grows w W) => check_row (.slice a 0 cap) [] (by simp) (by simp) W ⟨a, cap, rfl, by simp, fun h => absurd rfl h⟩
  have he : pensErr [] = 0 := by decide
  rw [he] at HC
  have hR1 : R.length ≤ 15 := by rw [hR]; simp
  have hq1 : q.length ≤ 5 := by rw [hq]; simp
  have hy0 : -1 ≤ y := by omega
  have hy1 : y ≤ 9999 := by omega
  go_enter Tryd.func43, Tryd.ntmps43
  go_upto_region 6 with (first | (go_at_call 27; (with_reducible refine (HC.out _ (by repeat' (first | (with_reducible exact Grows.refl _) | (with_reducible refine Grows.alloc ?_ _) | (with_reducible refine Grows.drew ?_) | (with_reducible refine Grows.ext ?_ _ _)))).mono ?_); rintro e w' ⟨rfl, h76, d76, rfl⟩))
  refine abs_worldM (fun W => At1 w W w.heap.size R q y) (by rw [hR, hq, hy]; exact at1_nil w _ _) ?_
  clear hR hq hy he HC
  rintro w0 ⟨hG, v1, hb1, hr1⟩
  obtain ⟨i0, hi, hz0, hz1, hz2⟩ := info_parts infoPar
  obtain ⟨j0, ji, jz0, jz1, jz2⟩ := info_parts info3t
  obtain ⟨a1, cap1, rfl, hcap1, hin1⟩ := id hr1
  obtain ⟨b1, off1, vs, rfl, hbb1, hvl, hv⟩ := hin1.vals (by simp)
  have hlen : (R ++ [q ++ [y]]).length = R.length + 1 := by simp
  have hlq : (q ++ [y]).length = q.length + 1 := by simp
  obtain ⟨s1, hs1, hs2, hs3⟩ := hv R.length (by omega)
  rw [hlen] at hb1 hr1 hcap1
  have hgt : (R ++ [q ++ [y]])[R.length]?.getD [] = q ++ [y] := by simp
  rw [hgt] at hs3
  obtain ⟨as1, caps, rfl, hcs, his⟩ := id hs3
  obtain ⟨bi, offi, has, hbi, hci⟩ := his (by simp)
  rw [hlq] at hs2 hs3 hcs hs1
  have hci' := ints_cells hci (q.length + 1)
  rw [List.take_of_length_le (by omega)] at hci'
  have hcy : w0.cell? ⟨bi, offi + q.length, none⟩ = some (.int .i64 y) := (hci q.length (by omega)).trans (by simp)
  have holds : ∀ b', some (⟨b1, off1, none⟩ : Addr) = some b' → ∀ j u, vs[j]? = some u → w0.cell? (b'.add j) = some u := by
    rintro b' e j u hj
    injection e with e
    subst e
    obtain ⟨s, h1, h2, -⟩ := hv j (by have := (List.getElem?_eq_some_iff.1 hj).1; omega)
    rw [h1] at hj
    rw [Addr.add_lit, h2, hj]
  have HO := Lib.hid fun W g => cells_grows (w' := W) hbb1 g holds
  have HI := Lib.hid fun W g => cells_grows (w' := W) hbi g hci'
  subst has
  have hcell := hb1.cell
  have e7 : ((R.length + 1 : Nat) : Int) ≤ cap1 := by omega
  have e8 : ((q.length + 1 : Nat) : Int) ≤ caps := by omega
  clear holds hci' hci his hin1 hgt hlen hlq
  obtain rfl : z = 59 := by simpa using e1
  go_wp2_with (first | (at_builtin; refine wpList_append_grows _ rfl (.tmp 42) (.tmp 45) 29 rfl 38 i0 (.agg #[.slice none 0 0]) 1 24 Tryd.underlying29 hi hz0 hz1 hz2 rfl (by decide) (some ⟨b1, off1, none⟩) (R.length + 1) (R.length + 1) vs rfl (fun h => by cases h) (by simpa using hvl) (HO.out _ (by repeat' (first | (with_reducible exact Grows.refl _) | (with_reducible refine Grows.alloc ?_ _) | (with_reducible refine Grows.drew ?_) | (with_reducible refine Grows.ext ?_ _ _)))) ⟨w0.heap.size + 1, 0, none⟩ 1 1 [.slice (some ⟨w0.heap.size, 0, none⟩) 1 1] rfl rfl (cell_at (by simp)) (by simp [Value.oneCell']) (by omega) (by unfold maxLen; omega) (by omega) ?_; intro v' w' hown hgrow))
  go_ret2
  refine ⟨_, rfl, row_more (w0 := w0) hvl (fun i hi => ?_) (told_ints (l := [-1]) (b := w0.heap.size) ?_) (Grows.trans (by repeat' (first | (with_reducible exact Grows.refl _) | (with_reducible refine Grows.alloc ?_ _) | (with_reducible refine Grows.drew ?_) | (with_reducible refine Grows.ext ?_ _ _))) (grows_by hgrow)) (grows_by hgrow) (by simpa using hown), hG.trans (Grows.trans (by repeat' (first | (with_reducible exact Grows.refl _) | (with_reducible refine Grows.alloc ?_ _) | (with_reducible refine Grows.drew ?_) | (with_reducible refine Grows.ext ?_ _ _))) (grows_by hgrow))⟩
  · obtain ⟨s, h1, -, h3⟩ := hv i hi
    exact ⟨s, h1, h3⟩
  · exact (Below.heap_alloc _ _ _ (by simp)).trans (heap_alloc_new w0 _)
set_option maxRecDepth 100000 in
set_option maxHeartbeats 8000000 in
theorem step_nil_B (a : Option Addr) (cap : Nat) (R : List (List Int)) (q : List Int) (y z : Int) (w : World) (hR : R = []) (hq : q = []) (hy : y = -1) (e1 : (z == 59) = true) (e2 : decide ((R.length : Int) + 1 < 16) = false) : Calls Tryd.prog 43 #[.slice a 0 cap, .int .u8 z] w (fun e w' => ∃ x, e = .returned (.tuple #[x, .int .i64 3]) ∧ RowAt w' x ([]) ∧ Grows w w') := by
  have HC := Lib.hid fun W (_ : Grows w W) => check_row (.slice a 0 cap) [] (by simp) (by simp) W ⟨a, cap, rfl, by simp, fun h => absurd rfl h⟩
  have he : pensErr [] = 0 := by decide
  rw [he] at HC
  have hR1 : R.length ≤ 15 := by rw [hR]; simp
  have hq1 : q.length ≤ 5 := by rw [hq]; simp
  have hy0 : -1 ≤ y := by omega
  have hy1 : y ≤ 9999 := by omega
  go_enter Tryd.func43, Tryd.ntmps43
  go_upto_region 6 with (first | (go_at_call 27; (with_reducible refine (HC.out _ (by repeat' (first | (with_reducible exact Grows.refl _) | (with_reducible refine Grows.alloc ?_ _) | (with_reducible refine Grows.drew ?_) | (with_reducible refine Grows.ext ?_ _ _)))).mono ?_); rintro e w' ⟨rfl, h77, d77, rfl⟩))
  refine abs_worldM (fun W => At1 w W w.heap.size R q y) (by rw [hR, hq, hy]; exact at1_nil w _ _) ?_
  clear hR hq hy he HC
  rintro w0 ⟨hG, v1, hb1, hr1⟩
  obtain ⟨i0, hi, hz0, hz1, hz2⟩ := info_parts infoPar
  obtain ⟨j0, ji, jz0, jz1, jz2⟩ := info_parts info3t
  obtain ⟨a1, cap1, rfl, hcap1, hin1⟩ := id hr1
  obtain ⟨b1, off1, vs, rfl, hbb1, hvl, hv⟩ := hin1.vals (by simp)
  have hlen : (R ++ [q ++ [y]]).length = R.length + 1 := by simp
  have hlq : (q ++ [y]).length = q.length + 1 := by simp
  obtain ⟨s1, hs1, hs2, hs3⟩ := hv R.length (by omega)
  rw [hlen] at hb1 hr1 hcap1
  have hgt : (R ++ [q ++ [y]])[R.length]?.getD [] = q ++ [y] := by simp
  rw [hgt] at hs3
  obtain ⟨as1, caps, rfl, hcs, his⟩ := id hs3
  obtain ⟨bi, offi, has, hbi, hci⟩ := his (by simp)
  rw [hlq] at hs2 hs3 hcs hs1
  have hci' := ints_cells hci (q.length + 1)
  rw [List.take_of_length_le (by omega)] at hci'
  have hcy : w0.cell? ⟨bi, offi + q.length, none⟩ = some (.int .i64 y) := (hci q.length (by omega)).trans (by simp)
  have holds : ∀ b', some (⟨b1, off1, none⟩ : Addr) = some b' → ∀ j u, vs[j]? = some u → w0.cell? (b'.add j) = some u := by
    rintro b' e j u hj
    injection e with e
    subst e
    obtain ⟨s, h1, h2, -⟩ := hv j (by have := (List.getElem?_eq_some_iff.1 hj).1; omega)
    rw [h1] at hj
    rw [Addr.add_lit, h2, hj]
  have HO := Lib.hid fun W g => cells_grows (w' := W) hbb1 g holds
  have HI := Lib.hid fun W g => cells_grows (w' := W) hbi g hci'
  subst has
  have hcell := hb1.cell
  have e7 : ((R.length + 1 : Nat) : Int) ≤ cap1 := by omega
  have e8 : ((q.length + 1 : Nat) : Int) ≤ caps := by omega
  clear holds hci' hci his hin1 hgt hlen hlq
  obtain rfl : z = 59 := by simpa using e1
  go_wp2_with (first | fail)
  go_ret2
  exact ⟨_, rfl, RowAt.nil _, hG⟩
set_option maxRecDepth 100000 in
set_option maxHeartbeats 8000000 in
theorem step_nil_C (a : Option Addr) (cap : Nat) (R : List (List Int)) (q : List Int) (y z : Int) (w : World) (hR : R = []) (hq : q = []) (hy : y = -1) (e1 : (z == 59) = false) (e3 : (z == 58) = true) (e4 : decide ((q.length : Int) + 1 < 6) = true) : Calls Tryd.prog 43 #[.slice a 0 cap, .int .u8 z] w (fun e w' => ∃ x, e = .returned (.tuple #[x, .int .i64 0]) ∧ RowAt w' x (R ++ [q ++ [y] ++ [-1]]) ∧ Grows w w') := by
  have HC := Lib.hid fun W (_ : Grows w W) => check_row (.slice a 0 cap) [] (by simp) (by simp) W ⟨a, cap, rfl, by simp, fun h => absurd rfl h⟩
  have he : pensErr [] = 0 := by decide
  rw [he] at HC
  have hR1 : R.length ≤ 15 := by rw [hR]; simp
  have hq1 : q.length ≤ 5 := by rw [hq]; simp
  have hy0 : -1 ≤ y := by omega
  have hy1 : y ≤ 9999 := by omega
  go_enter Tryd.func43, Tryd.ntmps43
  go_upto_region 6 with (first | (go_at_call 27; (with_reducible refine (HC.out _ (by repeat' (first | (with_reducible exact Grows.refl _) | (with_reducible refine Grows.alloc ?_ _) | (with_reducible refine Grows.drew ?_) | (with_reducible refine Grows.ext ?_ _ _)))).mono ?_); rintro e w' ⟨rfl, h78, d78, rfl⟩))
  refine abs_worldM (fun W => At1 w W w.heap.size R q y) (by rw [hR, hq, hy]; exact at1_nil w _ _) ?_
  clear hR hq hy he HC
  rintro w0 ⟨hG, v1, hb1, hr1⟩
  obtain ⟨i0, hi, hz0, hz1, hz2⟩ := info_parts infoPar
  obtain ⟨j0, ji, jz0, jz1, jz2⟩ := info_parts info3t
  obtain ⟨a1, cap1, rfl, hcap1, hin1⟩ := id hr1
  obtain ⟨b1, off1, vs, rfl, hbb1, hvl, hv⟩ := hin1.vals (by simp)
  have hlen : (R ++ [q ++ [y]]).length = R.length + 1 := by simp
  have hlq : (q ++ [y]).length = q.length + 1 := by simp
  obtain ⟨s1, hs1, hs2, hs3⟩ := hv R.length (by omega)
  rw [hlen] at hb1 hr1 hcap1
  have hgt : (R ++ [q ++ [y]])[R.length]?.getD [] = q ++ [y] := by simp
  rw [hgt] at hs3
  obtain ⟨as1, caps, rfl, hcs, his⟩ := id hs3
  obtain ⟨bi, offi, has, hbi, hci⟩ := his (by simp)
  rw [hlq] at hs2 hs3 hcs hs1
  have hci' := ints_cells hci (q.length + 1)
  rw [List.take_of_length_le (by omega)] at hci'
  have hcy : w0.cell? ⟨bi, offi + q.length, none⟩ = some (.int .i64 y) := (hci q.length (by omega)).trans (by simp)
  have holds : ∀ b', some (⟨b1, off1, none⟩ : Addr) = some b' → ∀ j u, vs[j]? = some u → w0.cell? (b'.add j) = some u := by
    rintro b' e j u hj
    injection e with e
    subst e
    obtain ⟨s, h1, h2, -⟩ := hv j (by have := (List.getElem?_eq_some_iff.1 hj).1; omega)
    rw [h1] at hj
    rw [Addr.add_lit, h2, hj]
  have HO := Lib.hid fun W g => cells_grows (w' := W) hbb1 g holds
  have HI := Lib.hid fun W g => cells_grows (w' := W) hbi g hci'
  subst has
  have hcell := hb1.cell
  have e7 : ((R.length + 1 : Nat) : Int) ≤ cap1 := by omega
  have e8 : ((q.length + 1 : Nat) : Int) ≤ caps := by omega
  clear holds hci' hci his hin1 hgt hlen hlq
  obtain rfl : z = 58 := by simpa using e3
  go_wp2_with (first | (at_builtin; (refine wpList_append_grows _ rfl (.tmp 61) (.tmp 62) 36 rfl 3 j0 (.int .i64 0) 1 8 Tryd.underlying36 ji jz0 jz1 jz2 rfl (by decide) (some ⟨bi, offi, none⟩) (q.length + 1) (q.length + 1) ((q ++ [y]).map (Value.int .i64 ·)) rfl (fun h => by cases h) (by simp) (HI.out _ (by repeat' (first | (with_reducible exact Grows.refl _) | (with_reducible refine Grows.alloc ?_ _) | (with_reducible refine Grows.drew ?_) | (with_reducible refine Grows.ext ?_ _ _)))) ⟨w0.heap.size, 0, none⟩ 1 1 [.int .i64 (-1)] rfl rfl (cell_one_new _ _ _) (by simp [Value.oneCell']) (by omega) (by unfold maxLen; omega) (by omega) ?_); intro v' w' hown hgrow; have hg1 : Grows w0 w' := Grows.trans (by repeat' (first | (with_reducible exact Grows.refl _) | (with_reducible refine Grows.alloc ?_ _) | (with_reducible refine Grows.drew ?_) | (with_reducible refine Grows.ext ?_ _ _))) (grows_by hgrow); have hI : IntsAt w' v' (q ++ [y] ++ [-1]) := ints_of_owns (base := w0.heap.size + 1) (t := 3) (by simpa using hown); have hB2 := (boxed_grows hb1 hg1).cell; have hR2 := hr1.grows hg1) | (go_at_call 79; (with_reducible refine (step79 _ _ R (q ++ [y]) _ _ _ (by omega) hB2 hR2 hI).mono ?_); rintro e w2 ⟨x, rfl, hx, hg2⟩))
  go_ret2
  exact ⟨_, rfl, hx, hG.trans (hg1.trans hg2)⟩
set_option maxRecDepth 100000 in
set_option maxHeartbeats 8000000 in
theorem step_nil_D (a : Option Addr) (cap : Nat) (R : List (List Int)) (q : List Int) (y z : Int) (w : World) (hR : R = []) (hq : q = []) (hy : y = -1) (e1 : (z == 59) = false) (e3 : (z == 58) = true) (e4 : decide ((q.length : Int) + 1 < 6) = false) : Calls Tryd.prog 43 #[.slice a 0 cap, .int .u8 z] w (fun e w' => ∃ x, e = .returned (.tuple #[x, .int .i64 3]) ∧ RowAt w' x ([]) ∧ Grows w w') := by
  have HC := Lib.hid fun W (_ : Grows w W) => check_row (.slice a 0 cap) [] (by simp) (by simp) W ⟨a, cap, rfl, by simp, fun h => absurd rfl h⟩
  have he : pensErr [] = 0 := by decide
  rw [he] at HC
  have hR1 : R.length ≤ 15 := by rw [hR]; simp
  have hq1 : q.length ≤ 5 := by rw [hq]; simp
  have hy0 : -1 ≤ y := by omega
  have hy1 : y ≤ 9999 := by omega
  go_enter Tryd.func43, Tryd.ntmps43
  go_upto_region 6 with (first | (go_at_call 27; (with_reducible refine (HC.out _ (by repeat' (first | (with_reducible exact Grows.refl _) | (with_reducible refine Grows.alloc ?_ _) | (with_reducible refine Grows.drew ?_) | (with_reducible refine Grows.ext ?_ _ _)))).mono ?_); rintro e w' ⟨rfl, h79, d79, rfl⟩))
  refine abs_worldM (fun W => At1 w W w.heap.size R q y) (by rw [hR, hq, hy]; exact at1_nil w _ _) ?_
  clear hR hq hy he HC
  rintro w0 ⟨hG, v1, hb1, hr1⟩
  obtain ⟨i0, hi, hz0, hz1, hz2⟩ := info_parts infoPar
  obtain ⟨j0, ji, jz0, jz1, jz2⟩ := info_parts info3t
  obtain ⟨a1, cap1, rfl, hcap1, hin1⟩ := id hr1
  obtain ⟨b1, off1, vs, rfl, hbb1, hvl, hv⟩ := hin1.vals (by simp)
  have hlen : (R ++ [q ++ [y]]).length = R.length + 1 := by simp
  have hlq : (q ++ [y]).length = q.length + 1 := by simp
  obtain ⟨s1, hs1, hs2, hs3⟩ := hv R.length (by omega)
  rw [hlen] at hb1 hr1 hcap1
  have hgt : (R ++ [q ++ [y]])[R.length]?.getD [] = q ++ [y] := by simp
  rw [hgt] at hs3
  obtain ⟨as1, caps, rfl, hcs, his⟩ := id hs3
  obtain ⟨bi, offi, has, hbi, hci⟩ := his (by simp)
  rw [hlq] at hs2 hs3 hcs hs1
  have hci' := ints_cells hci (q.length + 1)
  rw [List.take_of_length_le (by omega)] at hci'
  have hcy : w0.cell? ⟨bi, offi + q.length, none⟩ = some (.int .i64 y) := (hci q.length (by omega)).trans (by simp)
  have holds : ∀ b', some (⟨b1, off1, none⟩ : Addr) = some b' → ∀ j u, vs[j]? = some u → w0.cell? (b'.add j) = some u := by
    rintro b' e j u hj
    injection e with e
    subst e
    obtain ⟨s, h1, h2, -⟩ := hv j (by have := (List.getElem?_eq_some_iff.1 hj).1; omega)
    rw [h1] at hj
    rw [Addr.add_lit, h2, hj]
  have HO := Lib.hid fun W g => cells_grows (w' := W) hbb1 g holds
  have HI := Lib.hid fun W g => cells_grows (w' := W) hbi g hci'
  subst has
  have hcell := hb1.cell
  have e7 : ((R.length + 1 : Nat) : Int) ≤ cap1 := by omega
  have e8 : ((q.length + 1 : Nat) : Int) ≤ caps := by omega
  clear holds hci' hci his hin1 hgt hlen hlq
  obtain rfl : z = 58 := by simpa using e3
  go_wp2_with (first | fail)
  go_ret2
  exact ⟨_, rfl, RowAt.nil _, hG⟩
set_option maxRecDepth 100000 in
set_option maxHeartbeats 8000000 in
theorem step_nil_E (a : Option Addr) (cap : Nat) (R : List (List Int)) (q : List Int) (y z : Int) (w : World) (hR : R = []) (hq : q = []) (hy : y = -1) (e1 : (z == 59) = false) (e3 : (z == 58) = false) (z0 : 48 ≤ z) (z1 : z ≤ 57) : Calls Tryd.prog 43 #[.slice a 0 cap, .int .u8 z] w (fun e w' => ∃ x, e = .returned (.tuple #[x, .int .i64 0]) ∧ RowAt w' x (R ++ [q ++ [min (max 0 y * 10 + (z - 48)) 9999]]) ∧ Grows w w') := by
  have HC := Lib.hid fun W (_ : Grows w W) => check_row (.slice a 0 cap) [] (by simp) (by simp) W ⟨a, cap, rfl, by simp, fun h => absurd rfl h⟩
  have he : pensErr [] = 0 := by decide
  rw [he] at HC
  have hR1 : R.length ≤ 15 := by rw [hR]; simp
  have hq1 : q.length ≤ 5 := by rw [hq]; simp
  have hy0 : -1 ≤ y := by omega
  have hy1 : y ≤ 9999 := by omega
  go_enter Tryd.func43, Tryd.ntmps43
  go_upto_region 6 with (first | (go_at_call 27; (with_reducible refine (HC.out _ (by repeat' (first | (with_reducible exact Grows.refl _) | (with_reducible refine Grows.alloc ?_ _) | (with_reducible refine Grows.drew ?_) | (with_reducible refine Grows.ext ?_ _ _)))).mono ?_); rintro e w' ⟨rfl, h80, d80, rfl⟩))
  refine abs_worldM (fun W => At1 w W w.heap.size R q y) (by rw [hR, hq, hy]; exact at1_nil w _ _) ?_
  clear hR hq hy he HC
  rintro w0 ⟨hG, v1, hb1, hr1⟩
  obtain ⟨i0, hi, hz0, hz1, hz2⟩ := info_parts infoPar
  obtain ⟨j0, ji, jz0, jz1, jz2⟩ := info_parts info3t
  obtain ⟨a1, cap1, rfl, hcap1, hin1⟩ := id hr1
  obtain ⟨b1, off1, vs, rfl, hbb1, hvl, hv⟩ := hin1.vals (by simp)
  have hlen : (R ++ [q ++ [y]]).length = R.length + 1 := by simp
  have hlq : (q ++ [y]).length = q.length + 1 := by simp
  obtain ⟨s1, hs1, hs2, hs3⟩ := hv R.length (by omega)
  rw [hlen] at hb1 hr1 hcap1
  have hgt : (R ++ [q ++ [y]])[R.length]?.getD [] = q ++ [y] := by simp
  rw [hgt] at hs3
  obtain ⟨as1, caps, rfl, hcs, his⟩ := id hs3
  obtain ⟨bi, offi, has, hbi, hci⟩ := his (by simp)
  rw [hlq] at hs2 hs3 hcs hs1
  have hci' := ints_cells hci (q.length + 1)
  rw [List.take_of_length_le (by omega)] at hci'
  have hcy : w0.cell? ⟨bi, offi + q.length, none⟩ = some (.int .i64 y) := (hci q.length (by omega)).trans (by simp)
  have holds : ∀ b', some (⟨b1, off1, none⟩ : Addr) = some b' → ∀ j u, vs[j]? = some u → w0.cell? (b'.add j) = some u := by
    rintro b' e j u hj
    injection e with e
    subst e
    obtain ⟨s, h1, h2, -⟩ := hv j (by have := (List.getElem?_eq_some_iff.1 hj).1; omega)
    rw [h1] at hj
    rw [Addr.add_lit, h2, hj]
  have HO := Lib.hid fun W g => cells_grows (w' := W) hbb1 g holds
  have HI := Lib.hid fun W g => cells_grows (w' := W) hbi g hci'
  subst has
  have hcell := hb1.cell
  have e7 : ((R.length + 1 : Nat) : Int) ≤ cap1 := by omega
  have e8 : ((q.length + 1 : Nat) : Int) ≤ caps := by omega
  clear holds hci' hci his hin1 hgt hlen hlq
  clear HI HO
  go_wp2_with (first | (go_at_call 81; (with_reducible refine (change81 _ q y _ w0 (by omega) hs3).mono ?_); rintro e w' ⟨x8, rfl, hI, hg1⟩; have hB2 := (boxed_grows hb1 hg1).cell; have hR2 := hr1.grows hg1) | (go_at_call 79; (with_reducible refine (step79 _ _ R (q ++ [y]) _ _ _ (by omega) hB2 hR2 hI).mono ?_); rintro e w2 ⟨x, rfl, hx, hg2⟩))
  all_goals go_ret2
  all_goals refine ⟨_, rfl, ?_, hG.trans (hg1.trans hg2)⟩
  all_goals (rw [dig_eq y z]; exact hx)
set_option maxRecDepth 100000 in
set_option maxHeartbeats 8000000 in
theorem step_nil_F (a : Option Addr) (cap : Nat) (R : List (List Int)) (q : List Int) (y z : Int) (w : World) (hR : R = []) (hq : q = []) (hy : y = -1) (e1 : (z == 59) = false) (e3 : (z == 58) = false) (e5 : decide (z ≥ 48) = false) : Calls Tryd.prog 43 #[.slice a 0 cap, .int .u8 z] w (fun e w' => ∃ x, e = .returned (.tuple #[x, .int .i64 6]) ∧ RowAt w' x ([]) ∧ Grows w w') := by
  have HC := Lib.hid fun W (_ : Grows w W) => check_row (.slice a 0 cap) [] (by simp) (by simp) W ⟨a, cap, rfl, by simp, fun h => absurd rfl h⟩
  have he : pensErr [] = 0 := by decide
  rw [he] at HC
  have hR1 : R.length ≤ 15 := by rw [hR]; simp
  have hq1 : q.length ≤ 5 := by rw [hq]; simp
  have hy0 : -1 ≤ y := by omega
  have hy1 : y ≤ 9999 := by omega
  go_enter Tryd.func43, Tryd.ntmps43
  go_upto_region 6 with (first | (go_at_call 27; (with_reducible refine (HC.out _ (by repeat' (first | (with_reducible exact Grows.refl _) | (with_reducible refine Grows.alloc ?_ _) | (with_reducible refine Grows.drew ?_) | (with_reducible refine Grows.ext ?_ _ _)))).mono ?_); rintro e w' ⟨rfl, h81, d81, rfl⟩))
  refine abs_worldM (fun W => At1 w W w.heap.size R q y) (by rw [hR, hq, hy]; exact at1_nil w _ _) ?_
  clear hR hq hy he HC
  rintro w0 ⟨hG, v1, hb1, hr1⟩
  obtain ⟨i0, hi, hz0, hz1, hz2⟩ := info_parts infoPar
  obtain ⟨j0, ji, jz0, jz1, jz2⟩ := info_parts info3t
  obtain ⟨a1, cap1, rfl, hcap1, hin1⟩ := id hr1
  obtain ⟨b1, off1, vs, rfl, hbb1, hvl, hv⟩ := hin1.vals (by simp)
  have hlen : (R ++ [q ++ [y]]).length = R.length + 1 := by simp
  have hlq : (q ++ [y]).length = q.length + 1 := by simp
  obtain ⟨s1, hs1, hs2, hs3⟩ := hv R.length (by omega)
  rw [hlen] at hb1 hr1 hcap1
  have hgt : (R ++ [q ++ [y]])[R.length]?.getD [] = q ++ [y] := by simp
  rw [hgt] at hs3
  obtain ⟨as1, caps, rfl, hcs, his⟩ := id hs3
  obtain ⟨bi, offi, has, hbi, hci⟩ := his (by simp)
  rw [hlq] at hs2 hs3 hcs hs1
  have hci' := ints_cells hci (q.length + 1)
  rw [List.take_of_length_le (by omega)] at hci'
  have hcy : w0.cell? ⟨bi, offi + q.length, none⟩ = some (.int .i64 y) := (hci q.length (by omega)).trans (by simp)
  have holds : ∀ b', some (⟨b1, off1, none⟩ : Addr) = some b' → ∀ j u, vs[j]? = some u → w0.cell? (b'.add j) = some u := by
    rintro b' e j u hj
    injection e with e
    subst e
    obtain ⟨s, h1, h2, -⟩ := hv j (by have := (List.getElem?_eq_some_iff.1 hj).1; omega)
    rw [h1] at hj
    rw [Addr.add_lit, h2, hj]
  have HO := Lib.hid fun W g => cells_grows (w' := W) hbb1 g holds
  have HI := Lib.hid fun W g => cells_grows (w' := W) hbi g hci'
  subst has
  have hcell := hb1.cell
  have e7 : ((R.length + 1 : Nat) : Int) ≤ cap1 := by omega
  have e8 : ((q.length + 1 : Nat) : Int) ≤ caps := by omega
  clear holds hci' hci his hin1 hgt hlen hlq
  go_wp2_with (first | fail)
  go_ret2
  exact ⟨_, rfl, RowAt.nil _, hG⟩
set_option maxRecDepth 100000 in
set_option maxHeartbeats 8000000 in
theorem step_nil_H (a : Option Addr) (cap : Nat) (R : List (List Int)) (q : List Int) (y z : Int) (w : World) (hR : R = []) (hq : q = []) (hy : y = -1) (e1 : (z == 59) = false) (e3 : (z == 58) = false) (e5 : decide (z ≥ 48) = true) (e6 : decide (z ≤ 57) = false) : Calls Tryd.prog 43 #[.slice a 0 cap, .int .u8 z] w (fun e w' => ∃ x, e = .returned (.tuple #[x, .int .i64 6]) ∧ RowAt w' x ([]) ∧ Grows w w') := by
  have HC := Lib.hid fun W (_ : Grows w W) => check_row (.slice a 0 cap) [] (by simp) (by simp) W ⟨a, cap, rfl, by simp, fun h => absurd rfl h⟩
  have he : pensErr [] = 0 := by decide
  rw [he] at HC
  have hR1 : R.length ≤ 15 := by rw [hR]; simp
  have hq1 : q.length ≤ 5 := by rw [hq]; simp
  have hy0 : -1 ≤ y := by omega
  have hy1 : y ≤ 9999 := by omega
  go_enter Tryd.func43, Tryd.ntmps43
  go_upto_region 6 with (first | (go_at_call 27; (with_reducible refine (HC.out _ (by repeat' (first | (with_reducible exact Grows.refl _) | (with_reducible refine Grows.alloc ?_ _) | (with_reducible refine Grows.drew ?_) | (with_reducible refine Grows.ext ?_ _ _)))).mono ?_); rintro e w' ⟨rfl, h82, d82, rfl⟩))
  refine abs_worldM (fun W => At1 w W w.heap.size R q y) (by rw [hR, hq, hy]; exact at1_nil w _ _) ?_
  clear hR hq hy he HC
  rintro w0 ⟨hG, v1, hb1, hr1⟩
  obtain ⟨i0, hi, hz0, hz1, hz2⟩ := info_parts infoPar
  obtain ⟨j0, ji, jz0, jz1, jz2⟩ := info_parts info3t
  obtain ⟨a1, cap1, rfl, hcap1, hin1⟩ := id hr1
  obtain ⟨b1, off1, vs, rfl, hbb1, hvl, hv⟩ := hin1.vals (by simp)
  have hlen : (R ++ [q ++ [y]]).length = R.length + 1 := by simp
  have hlq : (q ++ [y]).length = q.length + 1 := by simp
  obtain ⟨s1, hs1, hs2, hs3⟩ := hv R.length (by omega)
  rw [hlen] at hb1 hr1 hcap1
  have hgt : (R ++ [q ++ [y]])[R.length]?.getD [] = q ++ [y] := by simp
  rw [hgt] at hs3
  obtain ⟨as1, caps, rfl, hcs, his⟩ := id hs3
  obtain ⟨bi, offi, has, hbi, hci⟩ := his (by simp)
  rw [hlq] at hs2 hs3 hcs hs1
  have hci' := ints_cells hci (q.length + 1)
  rw [List.take_of_length_le (by omega)] at hci'
  have hcy : w0.cell? ⟨bi, offi + q.length, none⟩ = some (.int .i64 y) := (hci q.length (by omega)).trans (by simp)
  have holds : ∀ b', some (⟨b1, off1, none⟩ : Addr) = some b' → ∀ j u, vs[j]? = some u → w0.cell? (b'.add j) = some u := by
    rintro b' e j u hj
    injection e with e
    subst e
    obtain ⟨s, h1, h2, -⟩ := hv j (by have := (List.getElem?_eq_some_iff.1 hj).1; omega)
    rw [h1] at hj
    rw [Addr.add_lit, h2, hj]
  have HO := Lib.hid fun W g => cells_grows (w' := W) hbb1 g holds
  have HI := Lib.hid fun W g => cells_grows (w' := W) hbi g hci'
  subst has
  have hcell := hb1.cell
  have e7 : ((R.length + 1 : Nat) : Int) ≤ cap1 := by omega
  have e8 : ((q.length + 1 : Nat) : Int) ≤ caps := by omega
  clear holds hci' hci his hin1 hgt hlen hlq
  go_wp2_with (first | fail)
  go_ret2
  exact ⟨_, rfl, RowAt.nil _, hG⟩
end Go.Proofs.YtobbphkfdhjmdaaDoor

namespace Go.Proofs.YtobbphkfdhjmdaaDoor
open Go.RowKit

set_option maxRecDepth 100000 in
set_option maxHeartbeats 8000000 in
theorem step_cons_A (v : Value) (R : List (List Int)) (q : List Int) (y z : Int) (w : World) (hok : okRow (R ++ [q ++ [y]]) = true) (h : RowAt w v (R ++ [q ++ [y]])) (e1 : (z == 59) = true) (e2 : decide ((R.length : Int) + 1 < 16) = true) : Calls Tryd.prog 43 #[v, .int .u8 z] w (fun e w' => ∃ x, e = .returned (.tuple #[x, .int .i64 0]) ∧ RowAt w' x (R ++ [q ++ [y]] ++ [[-1]]) ∧ Grows w w') := by
  obtain ⟨k1, -, k3⟩ := okRow_iff.1 hok
  obtain ⟨-, k4, k5⟩ := okPart_iff.1 (k3 (q ++ [y]) (by simp))
  have HC := Lib.hid fun W (hW : Grows w W) => check_row v (R ++ [q ++ [y]]) (by omega) (fun p hp => by have := (okPart_iff.1 (k3 p hp)).2.1; omega) W (h.grows hW)
  have he : pensErr (R ++ [q ++ [y]]) = 0 := by simp only [pensErr, hok, if_true]
  rw [he] at HC
  obtain ⟨hy0, hy1⟩ := k5 y (by simp)
  have hR1 : R.length ≤ 15 := by simp at k1; omega
  have hq1 : q.length ≤ 5 := by simp at k4; omega
  clear k1 k3 k4 k5 he hok
  have hlen : (R ++ [q ++ [y]]).length = R.length + 1 := by simp
  have HW := Lib.hid fun W (hW : Grows w W) => h.grows hW
  obtain ⟨a, cap, rfl, -, -⟩ := h
  rw [hlen] at HC HW
  have e0 : (((R.length : Int) + 1) == 0) = false := by simp; omega
  go_enter Tryd.func43, Tryd.ntmps43
  go_upto_region 6 with (first | (go_at_call 27; (with_reducible refine (HC.out _ (by repeat' (first | (with_reducible exact Grows.refl _) | (with_reducible refine Grows.alloc ?_ _) | (with_reducible refine Grows.drew ?_) | (with_reducible refine Grows.ext ?_ _ _)))).mono ?_); rintro e w' ⟨rfl, h83, d83, rfl⟩))
  refine abs_worldM (fun W => At1 w W w.heap.size R q y) ⟨(by repeat' (first | (with_reducible exact Grows.refl _) | (with_reducible refine Grows.alloc ?_ _) | (with_reducible refine Grows.drew ?_) | (with_reducible refine Grows.ext ?_ _ _))), _, boxed_grows (Boxed.new w 29 _) (by repeat' (first | (with_reducible exact Grows.refl _) | (with_reducible refine Grows.alloc ?_ _) | (with_reducible refine Grows.drew ?_) | (with_reducible refine Grows.ext ?_ _ _))), HW.out _ (by repeat' (first | (with_reducible exact Grows.refl _) | (with_reducible refine Grows.alloc ?_ _) | (with_reducible refine Grows.drew ?_) | (with_reducible refine Grows.ext ?_ _ _)))⟩ ?_
  clear hlen
  rintro w0 ⟨hG, v1, hb1, hr1⟩
  obtain ⟨i0, hi, hz0, hz1, hz2⟩ := info_parts infoPar
  obtain ⟨j0, ji, jz0, jz1, jz2⟩ := info_parts info3t
  obtain ⟨a1, cap1, rfl, hcap1, hin1⟩ := id hr1
  obtain ⟨b1, off1, vs, rfl, hbb1, hvl, hv⟩ := hin1.vals (by simp)
  have hlen : (R ++ [q ++ [y]]).length = R.length + 1 := by simp
  have hlq : (q ++ [y]).length = q.length + 1 := by simp
  obtain ⟨s1, hs1, hs2, hs3⟩ := hv R.length (by omega)
  rw [hlen] at hb1 hr1 hcap1
  have hgt : (R ++ [q ++ [y]])[R.length]?.getD [] = q ++ [y] := by simp
  rw [hgt] at hs3
  obtain ⟨as1, caps, rfl, hcs, his⟩ := id hs3
  obtain ⟨bi, offi, has, hbi, hci⟩ := his (by simp)
  rw [hlq] at hs2 hs3 hcs hs1
  have hci' := ints_cells hci (q.length + 1)
  rw [List.take_of_length_le (by omega)] at hci'
  have hcy : w0.cell? ⟨bi, offi + q.length, none⟩ = some (.int .i64 y) := (hci q.length (by omega)).trans (by simp)
  have holds : ∀ b', some (⟨b1, off1, none⟩ : Addr) = some b' → ∀ j u, vs[j]? = some u → w0.cell? (b'.add j) = some u := by
    rintro b' e j u hj
    injection e with e
    subst e
    obtain ⟨s, h1, h2, -⟩ := hv j (by have := (List.getElem?_eq_some_iff.1 hj).1; omega)
    rw [h1] at hj
    rw [Addr.add_lit, h2, hj]
  have HO := Lib.hid fun W g => cells_grows (w' := W) hbb1 g holds
  have HI := Lib.hid fun W g => cells_grows (w' := W) hbi g hci'
  subst has
  have hcell := hb1.cell
  have e7 : ((R.length + 1 : Nat) : Int) ≤ cap1 := by omega
  have e8 : ((q.length + 1 : Nat) : Int) ≤ caps := by omega
  clear holds hci' hci his hin1 hgt hlen hlq
  obtain rfl : z = 59 := by simpa using e1
  go_wp2_with (first | (at_builtin; refine wpList_append_grows _ rfl (.tmp 42) (.tmp 45) 29 rfl 38 i0 (.agg #[.slice none 0 0]) 1 24 Tryd.underlying29 hi hz0 hz1 hz2 rfl (by decide) (some ⟨b1, off1, none⟩) (R.length + 1) (R.length + 1) vs rfl (fun h => by cases h) (by simpa using hvl) (HO.out _ (by repeat' (first | (with_reducible exact Grows.refl _) | (with_reducible refine Grows.alloc ?_ _) | (with_reducible refine Grows.drew ?_) | (with_reducible refine Grows.ext ?_ _ _)))) ⟨w0.heap.size + 1, 0, none⟩ 1 1 [.slice (some ⟨w0.heap.size, 0, none⟩) 1 1] rfl rfl (cell_at (by simp)) (by simp [Value.oneCell']) (by omega) (by unfold maxLen; omega) (by omega) ?_; intro v' w' hown hgrow))
  go_ret2
  refine ⟨_, rfl, row_more (w0 := w0) hvl (fun i hi => ?_) (told_ints (l := [-1]) (b := w0.heap.size) ?_) (Grows.trans (by repeat' (first | (with_reducible exact Grows.refl _) | (with_reducible refine Grows.alloc ?_ _) | (with_reducible refine Grows.drew ?_) | (with_reducible refine Grows.ext ?_ _ _))) (grows_by hgrow)) (grows_by hgrow) (by simpa using hown), hG.trans (Grows.trans (by repeat' (first | (with_reducible exact Grows.refl _) | (with_reducible refine Grows.alloc ?_ _) | (with_reducible refine Grows.drew ?_) | (with_reducible refine Grows.ext ?_ _ _))) (grows_by hgrow))⟩
  · obtain ⟨s, h1, -, h3⟩ := hv i hi
    exact ⟨s, h1, h3⟩
  · exact (Below.heap_alloc _ _ _ (by simp)).trans (heap_alloc_new w0 _)
set_option maxRecDepth 100000 in
set_option maxHeartbeats 8000000 in
theorem step_cons_B (v : Value) (R : List (List Int)) (q : List Int) (y z : Int) (w : World) (hok : okRow (R ++ [q ++ [y]]) = true) (h : RowAt w v (R ++ [q ++ [y]])) (e1 : (z == 59) = true) (e2 : decide ((R.length : Int) + 1 < 16) = false) : Calls Tryd.prog 43 #[v, .int .u8 z] w (fun e w' => ∃ x, e = .returned (.tuple #[x, .int .i64 3]) ∧ RowAt w' x ([]) ∧ Grows w w') := by
  obtain ⟨k1, -, k3⟩ := okRow_iff.1 hok
  obtain ⟨-, k4, k5⟩ := okPart_iff.1 (k3 (q ++ [y]) (by simp))
  have HC := Lib.hid fun W (hW : Grows w W) => check_row v (R ++ [q ++ [y]]) (by omega) (fun p hp => by have := (okPart_iff.1 (k3 p hp)).2.1; omega) W (h.grows hW)
  have he : pensErr (R ++ [q ++ [y]]) = 0 := by simp only [pensErr, hok, if_true]
  rw [he] at HC
  obtain ⟨hy0, hy1⟩ := k5 y (by simp)
  have hR1 : R.length ≤ 15 := by simp at k1; omega
  have hq1 : q.length ≤ 5 := by simp at k4; omega
  clear k1 k3 k4 k5 he hok
  have hlen : (R ++ [q ++ [y]]).length = R.length + 1 := by simp
  have HW := Lib.hid fun W (hW : Grows w W) => h.grows hW
  obtain ⟨a, cap, rfl, -, -⟩ := h
  rw [hlen] at HC HW
  have e0 : (((R.length : Int) + 1) == 0) = false := by simp; omega
  go_enter Tryd.func43, Tryd.ntmps43
  go_upto_region 6 with (first | (go_at_call 27; (with_reducible refine (HC.out _ (by repeat' (first | (with_reducible exact Grows.refl _) | (with_reducible refine Grows.alloc ?_ _) | (with_reducible refine Grows.drew ?_) | (with_reducible refine Grows.ext ?_ _ _)))).mono ?_); rintro e w' ⟨rfl, h84, d84, rfl⟩))
  refine abs_worldM (fun W => At1 w W w.heap.size R q y) ⟨(by repeat' (first | (with_reducible exact Grows.refl _) | (with_reducible refine Grows.alloc ?_ _) | (with_reducible refine Grows.drew ?_) | (with_reducible refine Grows.ext ?_ _ _))), _, boxed_grows (Boxed.new w 29 _) (by repeat' (first | (with_reducible exact Grows.refl _) | (with_reducible refine Grows.alloc ?_ _) | (with_reducible refine Grows.drew ?_) | (with_reducible refine Grows.ext ?_ _ _))), HW.out _ (by repeat' (first | (with_reducible exact Grows.refl _) | (with_reducible refine Grows.alloc ?_ _) | (with_reducible refine Grows.drew ?_) | (with_reducible refine Grows.ext ?_ _ _)))⟩ ?_
  clear hlen
  rintro w0 ⟨hG, v1, hb1, hr1⟩
  obtain ⟨i0, hi, hz0, hz1, hz2⟩ := info_parts infoPar
  obtain ⟨j0, ji, jz0, jz1, jz2⟩ := info_parts info3t
  obtain ⟨a1, cap1, rfl, hcap1, hin1⟩ := id hr1
  obtain ⟨b1, off1, vs, rfl, hbb1, hvl, hv⟩ := hin1.vals (by simp)
  have hlen : (R ++ [q ++ [y]]).length = R.length + 1 := by simp
  have hlq : (q ++ [y]).length = q.length + 1 := by simp
  obtain ⟨s1, hs1, hs2, hs3⟩ := hv R.length (by omega)
  rw [hlen] at hb1 hr1 hcap1
  have hgt : (R ++ [q ++ [y]])[R.length]?.getD [] = q ++ [y] := by simp
  rw [hgt] at hs3
  obtain ⟨as1, caps, rfl, hcs, his⟩ := id hs3
  obtain ⟨bi, offi, has, hbi, hci⟩ := his (by simp)
  rw [hlq] at hs2 hs3 hcs hs1
  have hci' := ints_cells hci (q.length + 1)
  rw [List.take_of_length_le (by omega)] at hci'
  have hcy : w0.cell? ⟨bi, offi + q.length, none⟩ = some (.int .i64 y) := (hci q.length (by omega)).trans (by simp)
  have holds : ∀ b', some (⟨b1, off1, none⟩ : Addr) = some b' → ∀ j u, vs[j]? = some u → w0.cell? (b'.add j) = some u := by
    rintro b' e j u hj
    injection e with e
    subst e
    obtain ⟨s, h1, h2, -⟩ := hv j (by have := (List.getElem?_eq_some_iff.1 hj).1; omega)
    rw [h1] at hj
    rw [Addr.add_lit, h2, hj]
  have HO := Lib.hid fun W g => cells_grows (w' := W) hbb1 g holds
  have HI := Lib.hid fun W g => cells_grows (w' := W) hbi g hci'
  subst has
  have hcell := hb1.cell
  have e7 : ((R.length + 1 : Nat) : Int) ≤ cap1 := by omega
  have e8 : ((q.length + 1 : Nat) : Int) ≤ caps := by omega
  clear holds hci' hci his hin1 hgt hlen hlq
  obtain rfl : z = 59 := by simpa using e1
  go_wp2_with (first | fail)
  go_ret2
  exact ⟨_, rfl, RowAt.nil _, hG⟩
set_option maxRecDepth 100000 in
set_option maxHeartbeats 8000000 in
theorem step_cons_C (v : Value) (R : List (List Int)) (q : List Int) (y z : Int) (w : World) (hok : okRow (R ++ [q ++ [y]]) = true) (h : RowAt w v (R ++ [q ++ [y]])) (e1 : (z == 59) = false) (e3 : (z == 58) = true) (e4 : decide ((q.length : Int) + 1 < 6) = true) : Calls Tryd.prog 43 #[v, .int .u8 z] w (fun e w' => ∃ x, e = .returned (.tuple #[x, .int .i64 0]) ∧ RowAt w' x (R ++ [q ++ [y] ++ [-1]]) ∧ Grows w w') := by
  obtain ⟨k1, -, k3⟩ := okRow_iff.1 hok
  obtain ⟨-, k4, k5⟩ := okPart_iff.1 (k3 (q ++ [y]) (by simp))
  have HC := Lib.hid fun W (hW : Grows w W) => check_row v (R ++ [q ++ [y]]) (by omega) (fun p hp => by have := (okPart_iff.1 (k3 p hp)).2.1; omega) W (h.grows hW)
  have he : pensErr (R ++ [q ++ [y]]) = 0 := by simp only [pensErr, hok, if_true]
  rw [he] at HC
  obtain ⟨hy0, hy1⟩ := k5 y (by simp)
  have hR1 : R.length ≤ 15 := by simp at k1; omega
  have hq1 : q.length ≤ 5 := by simp at k4; omega
  clear k1 k3 k4 k5 he hok
  have hlen : (R ++ [q ++ [y]]).length = R.length + 1 := by simp
  have HW := Lib.hid fun W (hW : Grows w W) => h.grows hW
  obtain ⟨a, cap, rfl, -, -⟩ := h
  rw [hlen] at HC HW
  have e0 : (((R.length : Int) + 1) == 0) = false := by simp; omega
  go_enter Tryd.func43, Tryd.ntmps43
  go_upto_region 6 with (first | (go_at_call 27; (with_reducible refine (HC.out _ (by repeat' (first | (with_reducible exact Grows.refl _) | (with_reducible refine Grows.alloc ?_ _) | (with_reducible refine Grows.drew ?_) | (with_reducible refine Grows.ext ?_ _ _)))).mono ?_); rintro e w' ⟨rfl, h85, d85, rfl⟩))
  refine abs_worldM (fun W => At1 w W w.heap.size R q y) ⟨(by repeat' (first | (with_reducible exact Grows.refl _) | (with_reducible refine Grows.alloc ?_ _) | (with_reducible refine Grows.drew ?_) | (with_reducible refine Grows.ext ?_ _ _))), _, boxed_grows (Boxed.new w 29 _) (by repeat' (first | (with_reducible exact Grows.refl _) | (with_reducible refine Grows.alloc ?_ _) | (with_reducible refine Grows.drew ?_) | (with_reducible refine Grows.ext ?_ _ _))), HW.out _ (by repeat' (first | (with_reducible exact Grows.refl _) | (with_reducible refine Grows.alloc ?_ _) | (with_reducible refine Grows.drew ?_) | (with_reducible refine Grows.ext ?_ _ _)))⟩ ?_
  clear hlen
  rintro w0 ⟨hG, v1, hb1, hr1⟩
  obtain ⟨i0, hi, hz0, hz1, hz2⟩ := info_parts infoPar
  obtain ⟨j0, ji, jz0, jz1, jz2⟩ := info_parts info3t
  obtain ⟨a1, cap1, rfl, hcap1, hin1⟩ := id hr1
  obtain ⟨b1, off1, vs, rfl, hbb1, hvl, hv⟩ := hin1.vals (by simp)
  have hlen : (R ++ [q ++ [y]]).length = R.length + 1 := by simp
  have hlq : (q ++ [y]).length = q.length + 1 := by simp
  obtain ⟨s1, hs1, hs2, hs3⟩ := hv R.length (by omega)
  rw [hlen] at hb1 hr1 hcap1
  have hgt : (R ++ [q ++ [y]])[R.length]?.getD [] = q ++ [y] := by simp
  rw [hgt] at hs3
  obtain ⟨as1, caps, rfl, hcs, his⟩ := id hs3
  obtain ⟨bi, offi, has, hbi, hci⟩ := his (by simp)
  rw [hlq] at hs2 hs3 hcs hs1
  have hci' := ints_cells hci (q.length + 1)
  rw [List.take_of_length_le (by omega)] at hci'
  have hcy : w0.cell? ⟨bi, offi + q.length, none⟩ = some (.int .i64 y) := (hci q.length (by omega)).trans (by simp)
  have holds : ∀ b', some (⟨b1, off1, none⟩ : Addr) = some b' → ∀ j u, vs[j]? = some u → w0.cell? (b'.add j) = some u := by
    rintro b' e j u hj
    injection e with e
    subst e
    obtain ⟨s, h1, h2, -⟩ := hv j (by have := (List.getElem?_eq_some_iff.1 hj).1; omega)
    rw [h1] at hj
    rw [Addr.add_lit, h2, hj]
  have HO := Lib.hid fun W g => cells_grows (w' := W) hbb1 g holds
  have HI := Lib.hid fun W g => cells_grows (w' := W) hbi g hci'
  subst has
  have hcell := hb1.cell
  have e7 : ((R.length + 1 : Nat) : Int) ≤ cap1 := by omega
  have e8 : ((q.length + 1 : Nat) : Int) ≤ caps := by omega
  clear holds hci' hci his hin1 hgt hlen hlq
  obtain rfl : z = 58 := by simpa using e3
  go_wp2_with (first | (at_builtin; (refine wpList_append_grows _ rfl (.tmp 61) (.tmp 62) 36 rfl 3 j0 (.int .i64 0) 1 8 Tryd.underlying36 ji jz0 jz1 jz2 rfl (by decide) (some ⟨bi, offi, none⟩) (q.length + 1) (q.length + 1) ((q ++ [y]).map (Value.int .i64 ·)) rfl (fun h => by cases h) (by simp) (HI.out _ (by repeat' (first | (with_reducible exact Grows.refl _) | (with_reducible refine Grows.alloc ?_ _) | (with_reducible refine Grows.drew ?_) | (with_reducible refine Grows.ext ?_ _ _)))) ⟨w0.heap.size, 0, none⟩ 1 1 [.int .i64 (-1)] rfl rfl (cell_one_new _ _ _) (by simp [Value.oneCell']) (by omega) (by unfold maxLen; omega) (by omega) ?_); intro v' w' hown hgrow; have hg1 : Grows w0 w' := Grows.trans (by repeat' (first | (with_reducible exact Grows.refl _) | (with_reducible refine Grows.alloc ?_ _) | (with_reducible refine Grows.drew ?_) | (with_reducible refine Grows.ext ?_ _ _))) (grows_by hgrow); have hI : IntsAt w' v' (q ++ [y] ++ [-1]) := ints_of_owns (base := w0.heap.size + 1) (t := 3) (by simpa using hown); have hB2 := (boxed_grows hb1 hg1).cell; have hR2 := hr1.grows hg1) | (go_at_call 79; (with_reducible refine (step79 _ _ R (q ++ [y]) _ _ _ (by omega) hB2 hR2 hI).mono ?_); rintro e w2 ⟨x, rfl, hx, hg2⟩))
  go_ret2
  exact ⟨_, rfl, hx, hG.trans (hg1.trans hg2)⟩
set_option maxRecDepth 100000 in
set_option maxHeartbeats 8000000 in
theorem step_cons_D (v : Value) (R : List (List Int)) (q : List Int) (y z : Int) (w : World) (hok : okRow (R ++ [q ++ [y]]) = true) (h : RowAt w v (R ++ [q ++ [y]])) (e1 : (z == 59) = false) (e3 : (z == 58) = true) (e4 : decide ((q.length : Int) + 1 < 6) = false) : Calls Tryd.prog 43 #[v, .int .u8 z] w (fun e w' => ∃ x, e = .returned (.tuple #[x, .int .i64 3]) ∧ RowAt w' x ([]) ∧ Grows w w') := by
  obtain ⟨k1, -, k3⟩ := okRow_iff.1 hok
  obtain ⟨-, k4, k5⟩ := okPart_iff.1 (k3 (q ++ [y]) (by simp))
  have HC := Lib.hid fun W (hW : Grows w W) => check_row v (R ++ [q ++ [y]]) (by omega) (fun p hp => by have := (okPart_iff.1 (k3 p hp)).2.1; omega) W (h.grows hW)
  have he : pensErr (R ++ [q ++ [y]]) = 0 := by simp only [pensErr, hok, if_true]
  rw [he] at HC
  obtain ⟨hy0, hy1⟩ := k5 y (by simp)
  have hR1 : R.length ≤ 15 := by simp at k1; omega
  have hq1 : q.length ≤ 5 := by simp at k4; omega
  clear k1 k3 k4 k5 he hok
  have hlen : (R ++ [q ++ [y]]).length = R.length + 1 := by simp
  have HW := Lib.hid fun W (hW : Grows w W) => h.grows hW
  obtain ⟨a, cap, rfl, -, -⟩ := h
  rw [hlen] at HC HW
  have e0 : (((R.length : Int) + 1) == 0) = false := by simp; omega
  go_enter Tryd.func43, Tryd.ntmps43
  go_upto_region 6 with (first | (go_at_call 27; (with_reducible refine (HC.out _ (by repeat' (first | (with_reducible exact Grows.refl _) | (with_reducible refine Grows.alloc ?_ _) | (with_reducible refine Grows.drew ?_) | (with_reducible refine Grows.ext ?_ _ _)))).mono ?_); rintro e w' ⟨rfl, h86, d86, rfl⟩))
  refine abs_worldM (fun W => At1 w W w.heap.size R q y) ⟨(by repeat' (first | (with_reducible exact Grows.refl _) | (with_reducible refine Grows.alloc ?_ _) | (with_reducible refine Grows.drew ?_) | (with_reducible refine Grows.ext ?_ _ _))), _, boxed_grows (Boxed.new w 29 _) (by repeat' (first | (with_reducible exact Grows.refl _) | (with_reducible refine Grows.alloc ?_ _) | (with_reducible refine Grows.drew ?_) | (with_reducible refine Grows.ext ?_ _ _))), HW.out _ (by repeat' (first | (with_reducible exact Grows.refl _) | (with_reducible refine Grows.alloc ?_ _) | (with_reducible refine Grows.drew ?_) | (with_reducible refine Grows.ext ?_ _ _)))⟩ ?_
  clear hlen
  rintro w0 ⟨hG, v1, hb1, hr1⟩
  obtain ⟨i0, hi, hz0, hz1, hz2⟩ := info_parts infoPar
  obtain ⟨j0, ji, jz0, jz1, jz2⟩ := info_parts info3t
  obtain ⟨a1, cap1, rfl, hcap1, hin1⟩ := id hr1
  obtain ⟨b1, off1, vs, rfl, hbb1, hvl, hv⟩ := hin1.vals (by simp)
  have hlen : (R ++ [q ++ [y]]).length = R.length + 1 := by simp
  have hlq : (q ++ [y]).length = q.length + 1 := by simp
  obtain ⟨s1, hs1, hs2, hs3⟩ := hv R.length (by omega)
  rw [hlen] at hb1 hr1 hcap1
  have hgt : (R ++ [q ++ [y]])[R.length]?.getD [] = q ++ [y] := by simp
  rw [hgt] at hs3
  obtain ⟨as1, caps, rfl, hcs, his⟩ := id hs3
  obtain ⟨bi, offi, has, hbi, hci⟩ := his (by simp)
  rw [hlq] at hs2 hs3 hcs hs1
  have hci' := ints_cells hci (q.length + 1)
  rw [List.take_of_length_le (by omega)] at hci'
  have hcy : w0.cell? ⟨bi, offi + q.length, none⟩ = some (.int .i64 y) := (hci q.length (by omega)).trans (by simp)
  have holds : ∀ b', some (⟨b1, off1, none⟩ : Addr) = some b' → ∀ j u, vs[j]? = some u → w0.cell? (b'.add j) = some u := by
    rintro b' e j u hj
    injection e with e
    subst e
    obtain ⟨s, h1, h2, -⟩ := hv j (by have := (List.getElem?_eq_some_iff.1 hj).1; omega)
    rw [h1] at hj
    rw [Addr.add_lit, h2, hj]
  have HO := Lib.hid fun W g => cells_grows (w' := W) hbb1 g holds
  have HI := Lib.hid fun W g => cells_grows (w' := W) hbi g hci'
  subst has
  have hcell := hb1.cell
  have e7 : ((R.length + 1 : Nat) : Int) ≤ cap1 := by omega
  have e8 : ((q.length + 1 : Nat) : Int) ≤ caps := by omega
  clear holds hci' hci his hin1 hgt hlen hlq
  obtain rfl : z = 58 := by simpa using e3
  go_wp2_with (first | fail)
  go_ret2
  exact ⟨_, rfl, RowAt.nil _, hG⟩
set_option maxRecDepth 100000 in
set_option maxHeartbeats 8000000 in
theorem step_cons_E (v : Value) (R : List (List Int)) (q : List Int) (y z : Int) (w : World) (hok : okRow (R ++ [q ++ [y]]) = true) (h : RowAt w v (R ++ [q ++ [y]])) (e1 : (z == 59) = false) (e3 : (z == 58) = false) (z0 : 48 ≤ z) (z1 : z ≤ 57) : Calls Tryd.prog 43 #[v, .int .u8 z] w (fun e w' => ∃ x, e = .returned (.tuple #[x, .int .i64 0]) ∧ RowAt w' x (R ++ [q ++ [min (max 0 y * 10 + (z - 48)) 9999]]) ∧ Grows w w') := by
  obtain ⟨k1, -, k3⟩ := okRow_iff.1 hok
  obtain ⟨-, k4, k5⟩ := okPart_iff.1 (k3 (q ++ [y]) (by simp))
  have HC := Lib.hid fun W (hW : Grows w W) => check_row v (R ++ [q ++ [y]]) (by omega) (fun p hp => by have := (okPart_iff.1 (k3 p hp)).2.1; omega) W (h.grows hW)
  have he : pensErr (R ++ [q ++ [y]]) = 0 := by simp only [pensErr, hok, if_true]
  rw [he] at HC
  obtain ⟨hy0, hy1⟩ := k5 y (by simp)
  have hR1 : R.length ≤ 15 := by simp at k1; omega
  have hq1 : q.length ≤ 5 := by simp at k4; omega
  clear k1 k3 k4 k5 he hok
  have hlen : (R ++ [q ++ [y]]).length = R.length + 1 := by simp
  have HW := Lib.hid fun W (hW : Grows w W) => h.grows hW
  obtain ⟨a, cap, rfl, -, -⟩ := h
  rw [hlen] at HC HW
  have e0 : (((R.length : Int) + 1) == 0) = false := by simp; omega
  go_enter Tryd.func43, Tryd.ntmps43
  go_upto_region 6 with (first | (go_at_call 27; (with_reducible refine (HC.out _ (by repeat' (first | (with_reducible exact Grows.refl _) | (with_reducible refine Grows.alloc ?_ _) | (with_reducible refine Grows.drew ?_) | (with_reducible refine Grows.ext ?_ _ _)))).mono ?_); rintro e w' ⟨rfl, h87, d87, rfl⟩))
  refine abs_worldM (fun W => At1 w W w.heap.size R q y) ⟨(by repeat' (first | (with_reducible exact Grows.refl _) | (with_reducible refine Grows.alloc ?_ _) | (with_reducible refine Grows.drew ?_) | (with_reducible refine Grows.ext ?_ _ _))), _, boxed_grows (Boxed.new w 29 _) (by repeat' (first | (with_reducible exact Grows.refl _) | (with_reducible refine Grows.alloc ?_ _) | (with_reducible refine Grows.drew ?_) | (with_reducible refine Grows.ext ?_ _ _))), HW.out _ (by repeat' (first | (with_reducible exact Grows.refl _) | (with_reducible refine Grows.alloc ?_ _) | (with_reducible refine Grows.drew ?_) | (with_reducible refine Grows.ext ?_ _ _)))⟩ ?_
  clear hlen
  rintro w0 ⟨hG, v1, hb1, hr1⟩
  obtain ⟨i0, hi, hz0, hz1, hz2⟩ := info_parts infoPar
  obtain ⟨j0, ji, jz0, jz1, jz2⟩ := info_parts info3t
  obtain ⟨a1, cap1, rfl, hcap1, hin1⟩ := id hr1
  obtain ⟨b1, off1, vs, rfl, hbb1, hvl, hv⟩ := hin1.vals (by simp)
  have hlen : (R ++ [q ++ [y]]).length = R.length + 1 := by simp
  have hlq : (q ++ [y]).length = q.length + 1 := by simp
  obtain ⟨s1, hs1, hs2, hs3⟩ := hv R.length (by omega)
  rw [hlen] at hb1 hr1 hcap1
  have hgt : (R ++ [q ++ [y]])[R.length]?.getD [] = q ++ [y] := by simp
  rw [hgt] at hs3
  obtain ⟨as1, caps, rfl, hcs, his⟩ := id hs3
  obtain ⟨bi, offi, has, hbi, hci⟩ := his (by simp)
  rw [hlq] at hs2 hs3 hcs hs1
  have hci' := ints_cells hci (q.length + 1)
  rw [List.take_of_length_le (by omega)] at hci'
  have hcy : w0.cell? ⟨bi, offi + q.length, none⟩ = some (.int .i64 y) := (hci q.length (by omega)).trans (by simp)
  have holds : ∀ b', some (⟨b1, off1, none⟩ : Addr) = some b' → ∀ j u, vs[j]? = some u → w0.cell? (b'.add j) = some u := by
    rintro b' e j u hj
    injection e with e
    subst e
    obtain ⟨s, h1, h2, -⟩ := hv j (by have := (List.getElem?_eq_some_iff.1 hj).1; omega)
    rw [h1] at hj
    rw [Addr.add_lit, h2, hj]
  have HO := Lib.hid fun W g => cells_grows (w' := W) hbb1 g holds
  have HI := Lib.hid fun W g => cells_grows (w' := W) hbi g hci'
  subst has
  have hcell := hb1.cell
  have e7 : ((R.length + 1 : Nat) : Int) ≤ cap1 := by omega
  have e8 : ((q.length + 1 : Nat) : Int) ≤ caps := by omega
  clear holds hci' hci his hin1 hgt hlen hlq
  clear HI HO
  go_wp2_with (first | (go_at_call 81; (with_reducible refine (change81 _ q y _ w0 (by omega) hs3).mono ?_); rintro e w' ⟨x8, rfl, hI, hg1⟩; have hB2 := (boxed_grows hb1 hg1).cell; have hR2 := hr1.grows hg1) | (go_at_call 79; (with_reducible refine (step79 _ _ R (q ++ [y]) _ _ _ (by omega) hB2 hR2 hI).mono ?_); rintro e w2 ⟨x, rfl, hx, hg2⟩))
  all_goals go_ret2
  all_goals refine ⟨_, rfl, ?_, hG.trans (hg1.trans hg2)⟩
  all_goals (rw [dig_eq y z]; exact hx)
set_option maxRecDepth 100000 in
set_option maxHeartbeats 8000000 in
theorem step_cons_F (v : Value) (R : List (List Int)) (q : List Int) (y z : Int) (w : World) (hok : okRow (R ++ [q ++ [y]]) = true) (h : RowAt w v (R ++ [q ++ [y]])) (e1 : (z == 59) = false) (e3 : (z == 58) = false) (e5 : decide (z ≥ 48) = false) : Calls Tryd.prog 43 #[v, .int .u8 z] w (fun e w' => ∃ x, e = .returned (.tuple #[x, .int .i64 6]) ∧ RowAt w' x ([]) ∧ Grows w w') := by
  obtain ⟨k1, -, k3⟩ := okRow_iff.1 hok
  obtain ⟨-, k4, k5⟩ := okPart_iff.1 (k3 (q ++ [y]) (by simp))
  have HC := Lib.hid fun W (hW : Grows w W) => check_row v (R ++ [q ++ [y]]) (by omega) (fun p hp => by have := (okPart_iff.1 (k3 p hp)).2.1; omega) W (h.grows hW)
  have he : pensErr (R ++ [q ++ [y]]) = 0 := by simp only [pensErr, hok, if_true]
  rw [he] at HC
  obtain ⟨hy0, hy1⟩ := k5 y (by simp)
  have hR1 : R.length ≤ 15 := by simp at k1; omega
  have hq1 : q.length ≤ 5 := by simp at k4; omega
  clear k1 k3 k4 k5 he hok
  have hlen : (R ++ [q ++ [y]]).length = R.length + 1 := by simp
  have HW := Lib.hid fun W (hW : Grows w W) => h.grows hW
  obtain ⟨a, cap, rfl, -, -⟩ := h
  rw [hlen] at HC HW
  have e0 : (((R.length : Int) + 1) == 0) = false := by simp; omega
  go_enter Tryd.func43, Tryd.ntmps43
  go_upto_region 6 with (first | (go_at_call 27; (with_reducible refine (HC.out _ (by repeat' (first | (with_reducible exact Grows.refl _) | (with_reducible refine Grows.alloc ?_ _) | (with_reducible refine Grows.drew ?_) | (with_reducible refine Grows.ext ?_ _ _)))).mono ?_); rintro e w' ⟨rfl, h88, d88, rfl⟩))
  refine abs_worldM (fun W => At1 w W w.heap.size R q y) ⟨(by repeat' (first | (with_reducible exact Grows.refl _) | (with_reducible refine Grows.alloc ?_ _) | (with_reducible refine Grows.drew ?_) | (with_reducible refine Grows.ext ?_ _ _))), _, boxed_grows (Boxed.new w 29 _) (by repeat' (first | (with_reducible exact Grows.refl _) | (with_reducible refine Grows.alloc ?_ _) | (with_reducible refine Grows.drew ?_) | (with_reducible refine Grows.ext ?_ _ _))), HW.out _ (by repeat' (first | (with_reducible exact Grows.refl _) | (with_reducible refine Grows.alloc ?_ _) | (with_reducible refine Grows.drew ?_) | (with_reducible refine Grows.ext ?_ _ _)))⟩ ?_
  clear hlen
  rintro w0 ⟨hG, v1, hb1, hr1⟩
  obtain ⟨i0, hi, hz0, hz1, hz2⟩ := info_parts infoPar
  obtain ⟨j0, ji, jz0, jz1, jz2⟩ := info_parts info3t
  obtain ⟨a1, cap1, rfl, hcap1, hin1⟩ := id hr1
  obtain ⟨b1, off1, vs, rfl, hbb1, hvl, hv⟩ := hin1.vals (by simp)
  have hlen : (R ++ [q ++ [y]]).length = R.length + 1 := by simp
  have hlq : (q ++ [y]).length = q.length + 1 := by simp
  obtain ⟨s1, hs1, hs2, hs3⟩ := hv R.length (by omega)
  rw [hlen] at hb1 hr1 hcap1
  have hgt : (R ++ [q ++ [y]])[R.length]?.getD [] = q ++ [y] := by simp
  rw [hgt] at hs3
  obtain ⟨as1, caps, rfl, hcs, his⟩ := id hs3
  obtain ⟨bi, offi, has, hbi, hci⟩ := his (by simp)
  rw [hlq] at hs2 hs3 hcs hs1
  have hci' := ints_cells hci (q.length + 1)
  rw [List.take_of_length_le (by omega)] at hci'
  have hcy : w0.cell? ⟨bi, offi + q.length, none⟩ = some (.int .i64 y) := (hci q.length (by omega)).trans (by simp)
  have holds : ∀ b', some (⟨b1, off1, none⟩ : Addr) = some b' → ∀ j u, vs[j]? = some u → w0.cell? (b'.add j) = some u := by
    rintro b' e j u hj
    injection e with e
    subst e
    obtain ⟨s, h1, h2, -⟩ := hv j (by have := (List.getElem?_eq_some_iff.1 hj).1; omega)
    rw [h1] at hj
    rw [Addr.add_lit, h2, hj]
  have HO := Lib.hid fun W g => cells_grows (w' := W) hbb1 g holds
  have HI := Lib.hid fun W g => cells_grows (w' := W) hbi g hci'
  subst has
  have hcell := hb1.cell
  have e7 : ((R.length + 1 : Nat) : Int) ≤ cap1 := by omega
  have e8 : ((q.length + 1 : Nat) : Int) ≤ caps := by omega
  clear holds hci' hci his hin1 hgt hlen hlq
  go_wp2_with (first | fail)
  go_ret2
  exact ⟨_, rfl, RowAt.nil _, hG⟩
set_option maxRecDepth 100000 in
set_option maxHeartbeats 8000000 in
theorem step_cons_H (v : Value) (R : List (List Int)) (q : List Int) (y z : Int) (w : World) (hok : okRow (R ++ [q ++ [y]]) = true) (h : RowAt w v (R ++ [q ++ [y]])) (e1 : (z == 59) = false) (e3 : (z == 58) = false) (e5 : decide (z ≥ 48) = true) (e6 : decide (z ≤ 57) = false) : Calls Tryd.prog 43 #[v, .int .u8 z] w (fun e w' => ∃ x, e = .returned (.tuple #[x, .int .i64 6]) ∧ RowAt w' x ([]) ∧ Grows w w') := by
  obtain ⟨k1, -, k3⟩ := okRow_iff.1 hok
  obtain ⟨-, k4, k5⟩ := okPart_iff.1 (k3 (q ++ [y]) (by simp))
  have HC := Lib.hid fun W (hW : Grows w W) => check_row v (R ++ [q ++ [y]]) (by omega) (fun p hp => by have := (okPart_iff.1 (k3 p hp)).2.1; omega) W (h.grows hW)
  have he : pensErr (R ++ [q ++ [y]]) = 0 := by simp only [pensErr, hok, if_true]
  rw [he] at HC
  obtain ⟨hy0, hy1⟩ := k5 y (by simp)
  have hR1 : R.length ≤ 15 := by simp at k1; omega
  have hq1 : q.length ≤ 5 := by simp at k4; omega
  clear k1 k3 k4 k5 he hok
  have hlen : (R ++ [q ++ [y]]).length = R.length + 1 := by simp
  have HW := Lib.hid fun W (hW : Grows w W) => h.grows hW
  obtain ⟨a, cap, rfl, -, -⟩ := h
  rw [hlen] at HC HW
  have e0 : (((R.length : Int) + 1) == 0) = false := by simp; omega
  go_enter Tryd.func43, Tryd.ntmps43
  go_upto_region 6 with (first | (go_at_call 27; (with_reducible refine (HC.out _ (by repeat' (first | (with_reducible exact Grows.refl _) | (with_reducible refine Grows.alloc ?_ _) | (with_reducible refine Grows.drew ?_) | (with_reducible refine Grows.ext ?_ _ _)))).mono ?_); rintro e w' ⟨rfl, h89, d89, rfl⟩))
  refine abs_worldM (fun W => At1 w W w.heap.size R q y) ⟨(by repeat' (first | (with_reducible exact Grows.refl _) | (with_reducible refine Grows.alloc ?_ _) | (with_reducible refine Grows.drew ?_) | (with_reducible refine Grows.ext ?_ _ _))), _, boxed_grows (Boxed.new w 29 _) (by repeat' (first | (with_reducible exact Grows.refl _) | (with_reducible refine Grows.alloc ?_ _) | (with_reducible refine Grows.drew ?_) | (with_reducible refine Grows.ext ?_ _ _))), HW.out _ (by repeat' (first | (with_reducible exact Grows.refl _) | (with_reducible refine Grows.alloc ?_ _) | (with_reducible refine Grows.drew ?_) | (with_reducible refine Grows.ext ?_ _ _)))⟩ ?_
  clear hlen
  rintro w0 ⟨hG, v1, hb1, hr1⟩
  obtain ⟨i0, hi, hz0, hz1, hz2⟩ := info_parts infoPar
  obtain ⟨j0, ji, jz0, jz1, jz2⟩ := info_parts info3t
  obtain ⟨a1, cap1, rfl, hcap1, hin1⟩ := id hr1
  obtain ⟨b1, off1, vs, rfl, hbb1, hvl, hv⟩ := hin1.vals (by simp)
  have hlen : (R ++ [q ++ [y]]).length = R.length + 1 := by simp
  have hlq : (q ++ [y]).length = q.length + 1 := by simp
  obtain ⟨s1, hs1, hs2, hs3⟩ := hv R.length (by omega)
  rw [hlen] at hb1 hr1 hcap1
  have hgt : (R ++ [q ++ [y]])[R.length]?.getD [] = q ++ [y] := by simp
  rw [hgt] at hs3
  obtain ⟨as1, caps, rfl, hcs, his⟩ := id hs3
  obtain ⟨bi, offi, has, hbi, hci⟩ := his (by simp)
  rw [hlq] at hs2 hs3 hcs hs1
  have hci' := ints_cells hci (q.length + 1)
  rw [List.take_of_length_le (by omega)] at hci'
  have hcy : w0.cell? ⟨bi, offi + q.length, none⟩ = some (.int .i64 y) := (hci q.length (by omega)).trans (by simp)
  have holds : ∀ b', some (⟨b1, off1, none⟩ : Addr) = some b' → ∀ j u, vs[j]? = some u → w0.cell? (b'.add j) = some u := by
    rintro b' e j u hj
    injection e with e
    subst e
    obtain ⟨s, h1, h2, -⟩ := hv j (by have := (List.getElem?_eq_some_iff.1 hj).1; omega)
    rw [h1] at hj
    rw [Addr.add_lit, h2, hj]
  have HO := Lib.hid fun W g => cells_grows (w' := W) hbb1 g holds
  have HI := Lib.hid fun W g => cells_grows (w' := W) hbi g hci'
  subst has
  have hcell := hb1.cell
  have e7 : ((R.length + 1 : Nat) : Int) ≤ cap1 := by omega
  have e8 : ((q.length + 1 : Nat) : Int) ≤ caps := by omega
  clear holds hci' hci his hin1 hgt hlen hlq
  go_wp2_with (first | fail)
  go_ret2
  exact ⟨_, rfl, RowAt.nil _, hG⟩
end Go.Proofs.YtobbphkfdhjmdaaDoor

namespace Go.Proofs.YtobbphkfdhjmdaaDoor
open Go.RowKit

theorem stepC_at (R : List (List Int)) (q : List Int) (y : Int) (c : UInt8) : stepC (R ++ [q ++ [y]]) c = if c = 59 then (if R.length + 1 < 16 then (R ++ [q ++ [y]] ++ [[-1]], 0) else ([], 3)) else if c = 58 then (if q.length + 1 < 6 then (R ++ [q ++ [y] ++ [-1]], 0) else ([], 3)) else if isDig c then (R ++ [q ++ [min (max 0 y * 10 + ((c.toNat : Int) - 48)) 9999]], 0) else ([], 6) := by
  unfold stepC
  rw [last_snoc, setLast_snoc, setLast_snoc]
  simp
theorem step_pick {P : List (List Int) × Int → Prop} (R : List (List Int)) (q : List Int) (y : Int) (c : UInt8)
    (hA : ((c.toNat : Int) == 59) = true → decide ((R.length : Int) + 1 < 16) = true → P (R ++ [q ++ [y]] ++ [[-1]], 0))
    (hB : ((c.toNat : Int) == 59) = true → decide ((R.length : Int) + 1 < 16) = false → P ([], 3))
    (hC : ((c.toNat : Int) == 59) = false → ((c.toNat : Int) == 58) = true → decide ((q.length : Int) + 1 < 6) = true → P (R ++ [q ++ [y] ++ [-1]], 0))
    (hD : ((c.toNat : Int) == 59) = false → ((c.toNat : Int) == 58) = true → decide ((q.length : Int) + 1 < 6) = false → P ([], 3))
    (hE : ((c.toNat : Int) == 59) = false → ((c.toNat : Int) == 58) = false → 48 ≤ (c.toNat : Int) → (c.toNat : Int) ≤ 57 → P (R ++ [q ++ [min (max 0 y * 10 + ((c.toNat : Int) - 48)) 9999]], 0))
    (hF : ((c.toNat : Int) == 59) = false → ((c.toNat : Int) == 58) = false → decide ((c.toNat : Int) ≥ 48) = false → P ([], 6))
    (hH : ((c.toNat : Int) == 59) = false → ((c.toNat : Int) == 58) = false → decide ((c.toNat : Int) ≥ 48) = true → decide ((c.toNat : Int) ≤ 57) = false → P ([], 6)) : P (stepC (R ++ [q ++ [y]]) c) := by
  rw [stepC_at]
  have inj : ∀ d : UInt8, c ≠ d → (c.toNat : Int) ≠ (d.toNat : Int) := fun d h e => h (UInt8.toNat_inj.1 (by omega))
  by_cases h59 : c = 59
  · subst h59
    rw [if_pos rfl]
    by_cases h : R.length + 1 < 16
    · rw [if_pos h]
      exact hA rfl (by simp; omega)
    · rw [if_neg h]
      exact hB rfl (by simp; omega)
  · rw [if_neg h59]
    have n59 : ((c.toNat : Int) == 59) = false := by simpa using inj 59 h59
    by_cases h58 : c = 58
    · subst h58
      rw [if_pos rfl]
      by_cases h : q.length + 1 < 6
      · rw [if_pos h]
        exact hC rfl rfl (by simp; omega)
      · rw [if_neg h]
        exact hD rfl rfl (by simp; omega)
    · rw [if_neg h58]
      have n58 : ((c.toNat : Int) == 58) = false := by simpa using inj 58 h58
      by_cases hd : isDig c = true
      · rw [if_pos hd]
        simp [isDig] at hd
        exact hE n59 n58 (by omega) (by omega)
      · rw [if_neg hd]
        simp [isDig] at hd
        by_cases h48 : (c.toNat : Int) ≥ 48
        · exact hH n59 n58 (by simpa using h48) (by simp; omega)
        · exact hF n59 n58 (by simpa using h48)
def StepPost (w : World) (s : List (List Int) × Int) (e : Ending) (w' : World) : Prop := ∃ x, e = .returned (.tuple #[x, .int .i64 s.2]) ∧ RowAt w' x s.1 ∧ Grows w w'
theorem step_any (v : Value) (r : List (List Int)) (c : UInt8) (hl : r.length ≤ 100000) (hp : ∀ p ∈ r, p.length ≤ 100000) (w : World) (h : RowAt w v r) : Calls Tryd.prog 43 #[v, .int .u8 (c.toNat : Int)] w (StepPost w (stepR r c)) := by
  by_cases hok : okRow r = true
  · rw [stepR_eq hok]
    cases r with
    | nil =>
      obtain ⟨a, cap, rfl, -, -⟩ := h
      refine step_pick (P := fun s => Calls Tryd.prog 43 #[.slice a 0 cap, .int .u8 (c.toNat : Int)] w (StepPost w s)) [] [] (-1) c ?_ ?_ ?_ ?_ ?_ ?_ ?_
      · exact fun e1 e2 => step_nil_A a cap [] [] (-1) _ w rfl rfl rfl e1 e2
      · exact fun e1 e2 => step_nil_B a cap [] [] (-1) _ w rfl rfl rfl e1 e2
      · exact fun e1 e2 e3 => step_nil_C a cap [] [] (-1) _ w rfl rfl rfl e1 e2 e3
      · exact fun e1 e2 e3 => step_nil_D a cap [] [] (-1) _ w rfl rfl rfl e1 e2 e3
      · exact fun e1 e2 e3 e4 => step_nil_E a cap [] [] (-1) _ w rfl rfl rfl e1 e2 e3 e4
      · exact fun e1 e2 e3 => step_nil_F a cap [] [] (-1) _ w rfl rfl rfl e1 e2 e3
      · exact fun e1 e2 e3 e4 => step_nil_H a cap [] [] (-1) _ w rfl rfl rfl e1 e2 e3 e4
    | cons p0 r0 =>
      rw [if_neg (by simp)]
      obtain ⟨R, p, hr⟩ : ∃ R p, p0 :: r0 = R ++ [p] := ⟨_, _, (List.dropLast_concat_getLast (by simp)).symm⟩
      rw [hr] at h hok ⊢
      obtain ⟨hp1, -, -⟩ := okPart_iff.1 ((okRow_iff.1 hok).2.2 p (by simp))
      obtain ⟨q, y, hq⟩ : ∃ q y, p = q ++ [y] := ⟨_, _, (List.dropLast_concat_getLast hp1).symm⟩
      subst hq
      refine step_pick (P := fun s => Calls Tryd.prog 43 #[v, .int .u8 (c.toNat : Int)] w (StepPost w s)) R q y c ?_ ?_ ?_ ?_ ?_ ?_ ?_
      · exact fun e1 e2 => step_cons_A v R q y _ w hok h e1 e2
      · exact fun e1 e2 => step_cons_B v R q y _ w hok h e1 e2
      · exact fun e1 e2 e3 => step_cons_C v R q y _ w hok h e1 e2 e3
      · exact fun e1 e2 e3 => step_cons_D v R q y _ w hok h e1 e2 e3
      · exact fun e1 e2 e3 e4 => step_cons_E v R q y _ w hok h e1 e2 e3 e4
      · exact fun e1 e2 e3 => step_cons_F v R q y _ w hok h e1 e2 e3
      · exact fun e1 e2 e3 e4 => step_cons_H v R q y _ w hok h e1 e2 e3 e4
  · have hok' : okRow r = false := by simpa using hok
    have e : stepR r c = ([], 150) := by unfold stepR; rw [if_neg hok]
    rw [e]
    exact (step_bad v r _ hl hp w hok' h).mono fun e w' hh => ⟨_, hh.1, RowAt.nil w', hh.2⟩
theorem setLast_mem {r : List (List Int)} {p q : List Int} (h : q ∈ setLast r p) : q ∈ r ∨ q = p := by
  unfold setLast at h
  rcases List.mem_append.1 h with h | h
  · exact .inl (List.dropLast_subset r h)
  · exact .inr (by simpa using h)
theorem stepR_small (r : List (List Int)) (c : UInt8) : (stepR r c).1.length ≤ 16 ∧ ∀ p ∈ (stepR r c).1, p.length ≤ 6 := by
  by_cases hok : okRow r = true
  · rw [stepR_eq hok]
    have key : ∀ r1 : List (List Int), r1.length ≤ 16 → (∀ p ∈ r1, p.length ≤ 6) → r1 ≠ [] → (stepC r1 c).1.length ≤ 16 ∧ ∀ p ∈ (stepC r1 c).1, p.length ≤ 6 := by
      intro r1 h1 h2 h3
      have hll : (lastL r1).length ≤ 6 := by
        unfold lastL
        rw [List.getLast?_eq_some_getLast h3]
        exact h2 _ (List.getLast_mem h3)
      have hpos := List.length_pos_iff.2 h3
      unfold stepC
      split
      · split
        · refine ⟨by simp; omega, fun p hp => ?_⟩
          rcases List.mem_append.1 hp with hp | hp
          · exact h2 p hp
          · obtain rfl : p = [-1] := by simpa using hp
            simp
        · simp
      · split
        · split
          · refine ⟨by simp [setLast]; omega, fun p hp => ?_⟩
            rcases setLast_mem hp with hp | rfl
            · exact h2 p hp
            · simp; omega
          · simp
        · split
          · refine ⟨by simp [setLast]; omega, fun p hp => ?_⟩
            rcases setLast_mem hp with hp | rfl
            · exact h2 p hp
            · simp; omega
          · simp
    obtain ⟨k1, -, k3⟩ := okRow_iff.1 hok
    cases r with
    | nil => exact key [[-1]] (by simp) (by simp) (by simp)
    | cons p0 r0 => exact key _ k1 (fun p hp => (okPart_iff.1 (k3 p hp)).2.1) (by simp)
  · unfold stepR
    rw [if_neg hok]
    simp
end Go.Proofs.YtobbphkfdhjmdaaDoor

namespace Go.Proofs.YtobbphkfdhjmdaaDoor
open Go.RowKit

def parseS (s : ByteArray) : List (List Int) × Int := if s.size > 4096 then ([], 3) else parseR [] s.data.toList
theorem parse_snoc (r : List (List Int)) (c : UInt8) (l : List UInt8) : parseR r (c :: l) = if (stepR r c).2 = 0 then parseR (stepR r c).1 l else ([], (stepR r c).2) := rfl
set_option maxHeartbeats 4000000 in
theorem parse_any (s : ByteArray) (w : World) : Calls Tryd.prog 26 #[.string s] w (StepPost w (parseS s)) := by
  by_cases hbig : s.size > 4096
  · have e1 : decide ((s.size : Int) > 4096) = true := by simp; omega
    have e2 : parseS s = ([], 3) := by unfold parseS; rw [if_pos hbig]
    rw [e2]
    go_enter Tryd.func26, Tryd.ntmps26
    go_wp2_with fail
    go_ret2
    exact ⟨_, rfl, RowAt.nil _, Grows.refl _⟩
  · have e1 : decide ((s.size : Int) > 4096) = false := by simp; omega
    have e2 : parseS s = parseR [] s.data.toList := by unfold parseS; rw [if_neg hbig]
    rw [e2]
    go_enter Tryd.func26, Tryd.ntmps26
    go_wp2_with fail
    go_loopw [2, 10] (fun x i wr' => ∃ (wv : World) (k : Nat) (r : List (List Int)), wv = wr' ∧ k ≤ s.size ∧ i = .int .i64 k ∧ Grows w wv ∧ RowAt wv x r ∧ (r.length ≤ 16 ∧ ∀ p ∈ r, p.length ≤ 6) ∧ parseR [] s.data.toList = parseR r (s.data.toList.drop k)) (fun _ i _ => s.size - (intOf i).toNat)
    case atStart => exact ⟨_, 0, [], rfl, Nat.zero_le _, rfl, Grows.refl _, RowAt.nil _, by simp, rfl⟩
    case round =>
      obtain ⟨wa, k, r, rfl, hk, rfl, hG, hR, hsm, hP⟩ := hrel
      by_cases hlt : k < s.size
      · have e3 : decide (k < s.size) = true := by simpa using hlt
        have hdrop : s.data.toList.drop k = s[k] :: s.data.toList.drop (k + 1) := List.drop_eq_getElem_cons (by simpa using hlt)
        have HS := Lib.hid (step_any _ r s[k] (by omega) (fun p hp => by have := hsm.2 p hp; omega) wa hR)
        have hsm2 := stepR_small r s[k]
        rw [hdrop, parse_snoc] at hP
        unfold StepPost at HS
        generalize hst : stepR r s[k] = st at *
        obtain ⟨r2, z⟩ := st
        dsimp only at HS hsm2 hP
        clear hst hR
        by_cases hz : z = 0
        · subst hz
          rw [if_pos rfl] at hP
          go_wp2_with (go_at_call 43; (with_reducible refine HS.out.mono ?_); rintro e w' ⟨x2, rfl, hx2, hg2⟩)
          go_roundw
          case rel => exact ⟨_, k + 1, r2, rfl, by omega, by go_num, hG.trans hg2, hx2, hsm2, hP⟩
          case measure => simp [intOf]; omega
        · have e4 : (z != 0) = true := by simpa using hz
          rw [if_neg hz] at hP
          clear hz
          go_wp2_with (go_at_call 43; (with_reducible refine HS.out.mono ?_); rintro e w' ⟨x2, rfl, hx2, hg2⟩)
          go_ret2
          rw [hP]
          exact ⟨_, rfl, RowAt.nil _, hG.trans hg2⟩
      · have e3 : decide (k < s.size) = false := by simpa using hlt
        go_wp2_with fail
        go_ret2
        have e5 : s.data.toList.drop k = [] := List.drop_eq_nil_of_le (by simp; have : s.data.size = s.size := rfl; omega)
        rw [e5] at hP
        rw [hP]
        exact ⟨_, rfl, hR, hG⟩
end Go.Proofs.YtobbphkfdhjmdaaDoor

