/-
  The iterator of param.parts. Print. says.
-/
import Derived.Test.YtobbphkfdhjmdaaDoorRows
import Derived.Test.YtobbphkfdhjmdaaDoorM1
import Derived.Test.YtobbphkfdhjmdaaDoorM10
import Derived.WalkKit
import Derived.WalkSpells
import Derived.WalkLawsBesides
import Derived.Handy
import Derived.Laws.Rows
import Derived.Great.BuildSlice
import Derived.Deep.Heap
import Derived.IntWalk
import Derived.Lib.Hide
import Derived.Outline
import Derived.Deep.Light
import Derived.Deep.LoopGhost
import Derived.BigGuardPart
import Derived.BigQuiet
import Derived.Deep.QuietTactic
import Derived.Deep.RegionHeld3
import Derived.Deep.DeepCutAuto
import Derived.Shelf.Abstract
import Derived.OwnWalkIn
import Derived.TacticsInMore
import Derived.LoopNIn
import Derived.LoopIn
import Derived.Test.YtobbphkfdhjmdaaDoorM3
import Derived.Laws.Concat
import Derived.Test.YtobbphkfdhjmdaaDoorM4
import Derived.Test.YtobbphkfdhjmdaaDoorM9
import Derived.Test.YtobbphkfdhjmdaaDoorM11
namespace Go.Proofs.YtobbphkfdhjmdaaDoor
open Go.RowKit

attribute [local go_sem] Oper.semAt_some
def two (x : List UInt8 × List UInt8) : Array Value := #[.string ⟨x.1.toArray⟩, .string ⟨x.2.toArray⟩]
theorem row_get {r : List (List Int)} {i : Nat} (hi : i < r.length) : r[i]?.getD [] = r[i] := by simp [hi]
set_option maxRecDepth 100000 in
set_option maxHeartbeats 8000000 in
theorem parts_gives (n C : Nat) (hn : 3 ≤ n) (r : List (List Int)) (w0 w : World) (hok : okRow r = true) (hb : Grows w0 w) (hs : Still C w0 w r) (hg : GT w0) :
    Gives n Tryd.prog 76 #[.pointer (some ⟨C, 0, none⟩)] two w0.heap.size C (pieces r) w := by
  intro l J W hW hJ hY h0
  have h1 : 1 ≤ n := by omega
  obtain ⟨v0, hv0, hr0⟩ := hs
  obtain ⟨k1, -, k3⟩ := okRow_iff.1 hok
  have hG0 : Grows w0 W := hb.trans (Grows.of_below hW)
  have hc0 := (boxed_grows hv0 (Grows.of_below hW)).cell
  obtain ⟨a, cap, rfl, hcap, hin⟩ := hr0
  refine callsIn_of_wp Tryd.func76 rfl trivial ?_ rfl
  simp only [Tryd.ntmps76, List.size_toArray, List.length_cons, List.length_nil, Nat.reduceAdd, Nat.reduceSub, Array.replicate_succ, Array.replicate_zero, List.push_toArray, List.append_toArray, List.nil_append, List.cons_append]
  gi_wp2
  gi_loopw [11] (fun i wr => ∃ ii : Nat, i = .int .i64 ii ∧ ii ≤ r.length ∧ Grows w0 wr ∧ J (pieces (r.take ii)) wr) (fun i _ => r.length - (intOf i).toNat)
  case atStart => exact ⟨0, rfl, Nat.zero_le _, hG0, by simpa [pieces] using h0⟩
  case round =>
    obtain ⟨i, rfl, hi, hG1, hJ1⟩ := hrel
    by_cases hlt : i < r.length
    · have e1 : decide (i < r.length) = true := by simpa using hlt
      obtain ⟨b, off, rfl, hbb, hcell⟩ := hin (by intro e; subst e; simp at hlt)
      obtain ⟨s, hs1, hs2⟩ := hcell i hlt
      obtain ⟨p2, p1, p3⟩ := okPart_iff.1 (k3 r[i] (List.getElem_mem hlt))
      rw [row_get hlt] at hs2
      have hat := pieces_at r i
      have htk := pieces_take r i hlt
      rw [row_get hlt] at hat htk
      have hat2 := fun k => hat k hlt
      generalize r[i] = p at *
      obtain ⟨sa, scap, rfl, hsc, hsi⟩ := hs2
      have hcA := (hG1.cellOf hbb).trans hs1
      clear hat
      obtain ⟨bp, offp, rfl, hbp, hcp⟩ := hsi p2
      clear hcell hsi hin
      gi_wp2
      gi_loopw [19] (fun k wr' => ∃ kk : Nat, k = .int .i64 kk ∧ kk ≤ p.length ∧ Grows w0 wr' ∧ J (pieces (r.take i) ++ (pieceH (hdI i) p).take kk) wr') (fun k _ => p.length - (intOf k).toNat)
      case atStart => exact ⟨0, rfl, Nat.zero_le _, hG1.alloc _, by simpa using hJ.1 _ _ _ hJ1 ((Grows.refl _).alloc _)⟩
      case round =>
        obtain ⟨k, rfl, hk, hG2, hJ2⟩ := hrel
        by_cases hkl : k < p.length
        · have e2 : decide (k < p.length) = true := by simpa using hkl
          have hcB := (hG2.cellOf hbp).trans (hcp k hkl)
          have hat3 := hat2 k hkl
          have hm : -1 ≤ p[k]?.getD 0 ∧ p[k]?.getD 0 ≤ 9999 := by
            simp only [hkl, List.getElem?_eq_getElem, Option.getD_some]
            exact p3 _ (List.getElem_mem hkl)
          have hnx := pieceH_take (hdI i) p k hkl
          have HT := Lib.hid (hg.grows hG2)
          generalize p[k]?.getD 0 = m at *
          clear hat2 hcp htk hcA
          by_cases hk0 : k = 0
          · by_cases hi0 : i = 0
            · by_cases hm0 : m = -1
              · have hX : (if k = 0 then hdI i else [58]) = ([] : List UInt8) := by simp [hdI, hk0, hi0]
                have hP : partT m = [] := by simp [partT, hm0]
                rw [hX, hP] at hat3 hnx
                have f1 : ((k : Int) == 0) = true := by simp; omega
                have f2 : ((i : Int) == 0) = true := by simp; omega
                have f3 : (m != -1) = false := by simpa using hm0
                clear hX hP hk0 hi0 hm0
                gi_wp2
                obtain ⟨fn, tmps, assign, body, hy, hR⟩ := hY _ ([], []) _ hJ2 hat3
                dsimp only [two] at hy
                rw [hy]
                gi_wp2
                refine hR.mono ?_
                rintro e W2 ⟨rfl, hJ3, hk3⟩
                gi_wp2
                go_roundw
                case rel =>
                  refine ⟨k + 1, by go_num, by omega, Grows.of_below (hG2.below.trans hk3.below), ?_⟩
                  rw [hnx, ← List.append_assoc]
                  exact hJ3
                case measure => simp [intOf]; omega
              · have hX : (if k = 0 then hdI i else [58]) = ([] : List UInt8) := by simp [hdI, hk0, hi0]
                have hP : partT m = Lib.itoa m := by simp [partT, hm0]
                rw [hX, hP] at hat3 hnx
                have f1 : ((k : Int) == 0) = true := by simp; omega
                have f2 : ((i : Int) == 0) = true := by simp; omega
                have f3 : (m != -1) = true := by simpa using hm0
                clear hX hP hk0 hi0 hm0
                gi_wp2_with (refine ⟨trivial, ?_⟩; gi_at_call 77; refine (callsIn_wide.2 (itoa_any m hm.1 hm.2 _ HT.out)).mono ?_; rintro e w' ⟨rfl, hgi⟩)
                obtain ⟨fn, tmps, assign, body, hy, hR⟩ := hY _ ([], Lib.itoa m) _ (hJ.1 _ _ _ hJ2 hgi) hat3
                dsimp only [two] at hy
                rw [hy]
                gi_wp2
                refine hR.mono ?_
                rintro e W2 ⟨rfl, hJ3, hk3⟩
                gi_wp2
                go_roundw
                case rel =>
                  refine ⟨k + 1, by go_num, by omega, Grows.of_below ((hG2.trans hgi).below.trans hk3.below), ?_⟩
                  rw [hnx, ← List.append_assoc]
                  exact hJ3
                case measure => simp [intOf]; omega
            · by_cases hm0 : m = -1
              · have hX : (if k = 0 then hdI i else [58]) = ([59] : List UInt8) := by simp [hdI, hk0, hi0]
                have hP : partT m = [] := by simp [partT, hm0]
                rw [hX, hP] at hat3 hnx
                have f1 : ((k : Int) == 0) = true := by simp; omega
                have f2 : ((i : Int) == 0) = false := by simp; omega
                have f3 : (m != -1) = false := by simpa using hm0
                clear hX hP hk0 hi0 hm0
                gi_wp2
                obtain ⟨fn, tmps, assign, body, hy, hR⟩ := hY _ ([59], []) _ hJ2 hat3
                dsimp only [two] at hy
                rw [hy]
                gi_wp2
                refine hR.mono ?_
                rintro e W2 ⟨rfl, hJ3, hk3⟩
                gi_wp2
                go_roundw
                case rel =>
                  refine ⟨k + 1, by go_num, by omega, Grows.of_below (hG2.below.trans hk3.below), ?_⟩
                  rw [hnx, ← List.append_assoc]
                  exact hJ3
                case measure => simp [intOf]; omega
              · have hX : (if k = 0 then hdI i else [58]) = ([59] : List UInt8) := by simp [hdI, hk0, hi0]
                have hP : partT m = Lib.itoa m := by simp [partT, hm0]
                rw [hX, hP] at hat3 hnx
                have f1 : ((k : Int) == 0) = true := by simp; omega
                have f2 : ((i : Int) == 0) = false := by simp; omega
                have f3 : (m != -1) = true := by simpa using hm0
                clear hX hP hk0 hi0 hm0
                gi_wp2_with (refine ⟨trivial, ?_⟩; gi_at_call 77; refine (callsIn_wide.2 (itoa_any m hm.1 hm.2 _ HT.out)).mono ?_; rintro e w' ⟨rfl, hgi⟩)
                obtain ⟨fn, tmps, assign, body, hy, hR⟩ := hY _ ([59], Lib.itoa m) _ (hJ.1 _ _ _ hJ2 hgi) hat3
                dsimp only [two] at hy
                rw [hy]
                gi_wp2
                refine hR.mono ?_
                rintro e W2 ⟨rfl, hJ3, hk3⟩
                gi_wp2
                go_roundw
                case rel =>
                  refine ⟨k + 1, by go_num, by omega, Grows.of_below ((hG2.trans hgi).below.trans hk3.below), ?_⟩
                  rw [hnx, ← List.append_assoc]
                  exact hJ3
                case measure => simp [intOf]; omega
          · by_cases hm0 : m = -1
            · have hX : (if k = 0 then hdI i else [58]) = ([58] : List UInt8) := by simp [hk0]
              have hP : partT m = [] := by simp [partT, hm0]
              rw [hX, hP] at hat3 hnx
              have f1 : ((k : Int) == 0) = false := by simp; omega
              have f3 : (m != -1) = false := by simpa using hm0
              clear hX hP hk0 hm0
              gi_wp2
              obtain ⟨fn, tmps, assign, body, hy, hR⟩ := hY _ ([58], []) _ hJ2 hat3
              dsimp only [two] at hy
              rw [hy]
              gi_wp2
              refine hR.mono ?_
              rintro e W2 ⟨rfl, hJ3, hk3⟩
              gi_wp2
              go_roundw
              case rel =>
                refine ⟨k + 1, by go_num, by omega, Grows.of_below (hG2.below.trans hk3.below), ?_⟩
                rw [hnx, ← List.append_assoc]
                exact hJ3
              case measure => simp [intOf]; omega
            · have hX : (if k = 0 then hdI i else [58]) = ([58] : List UInt8) := by simp [hk0]
              have hP : partT m = Lib.itoa m := by simp [partT, hm0]
              rw [hX, hP] at hat3 hnx
              have f1 : ((k : Int) == 0) = false := by simp; omega
              have f3 : (m != -1) = true := by simpa using hm0
              clear hX hP hk0 hm0
              gi_wp2_with (refine ⟨trivial, ?_⟩; gi_at_call 77; refine (callsIn_wide.2 (itoa_any m hm.1 hm.2 _ HT.out)).mono ?_; rintro e w' ⟨rfl, hgi⟩)
              obtain ⟨fn, tmps, assign, body, hy, hR⟩ := hY _ ([58], Lib.itoa m) _ (hJ.1 _ _ _ hJ2 hgi) hat3
              dsimp only [two] at hy
              rw [hy]
              gi_wp2
              refine hR.mono ?_
              rintro e W2 ⟨rfl, hJ3, hk3⟩
              gi_wp2
              go_roundw
              case rel =>
                refine ⟨k + 1, by go_num, by omega, Grows.of_below ((hG2.trans hgi).below.trans hk3.below), ?_⟩
                rw [hnx, ← List.append_assoc]
                exact hJ3
              case measure => simp [intOf]; omega
        · have e2 : decide (k < p.length) = false := by simpa using hkl
          gi_wp2
          go_roundw
          case rel =>
            refine ⟨i + 1, by go_num, by omega, hG2, ?_⟩
            have ht : (pieceH (hdI i) p).take k = pieceH (hdI i) p := List.take_of_length_le (by rw [pieceH_len]; omega)
            rw [ht] at hJ2
            rw [htk]
            exact hJ2
          case measure => simp [intOf]; omega
    · have e1 : decide (i < r.length) = false := by simpa using hlt
      gi_wp2
      go_end0
      have e : r.take i = r := List.take_of_length_le (by omega)
      rw [e] at hJ1
      exact ⟨⟨_, rfl⟩, hJ1⟩
end Go.Proofs.YtobbphkfdhjmdaaDoor

namespace Go.Proofs.YtobbphkfdhjmdaaDoor
open Go.RowKit

attribute [local go_sem] Oper.semAt_some
theorem dec_len : ∀ (k u : Nat), u < 10 ^ (k + 1) → (Lib.decDigits u).length ≤ k + 1
  | k, u, h => by
    rw [Lib.decDigits]
    split
    · simp
    · cases k with
      | zero => omega
      | succ k =>
        have := dec_len k (u / 10) (by rw [Nat.pow_succ] at h; omega)
        simp
        omega
theorem part_len (n : Int) (h0 : -1 ≤ n) (h1 : n ≤ 9999) : (partT n).length ≤ 4 := by
  unfold partT
  split
  · simp
  · unfold Lib.itoa
    rw [if_neg (by omega)]
    exact dec_len 3 n.toNat (by omega)
theorem pieceH_small (hd : List UInt8) (hh : hd.length ≤ 1) (p : List Int) (hp : ∀ n ∈ p, -1 ≤ n ∧ n ≤ 9999) : ∀ x ∈ pieceH hd p, x.1.length + x.2.length ≤ 5 := by
  cases p with
  | nil => simp [pieceH]
  | cons n l =>
    intro x hx
    rcases List.mem_cons.1 hx with rfl | hx
    · have := part_len n (hp n (by simp)).1 (hp n (by simp)).2
      simp only
      omega
    · obtain ⟨m, hm, rfl⟩ := List.mem_map.1 hx
      have := part_len m (hp m (by simp [hm])).1 (hp m (by simp [hm])).2
      simp only [List.length_singleton]
      omega
theorem pieces_small (r : List (List Int)) (hok : okRow r = true) : ∀ x ∈ pieces r, x.1.length + x.2.length ≤ 5 := by
  obtain ⟨-, -, k3⟩ := okRow_iff.1 hok
  have k4 : ∀ p ∈ r, ∀ n ∈ p, -1 ≤ n ∧ n ≤ 9999 := fun p hp => (okPart_iff.1 (k3 p hp)).2.2
  cases r with
  | nil => simp [pieces]
  | cons p l =>
    intro x hx
    rcases List.mem_append.1 hx with hx | hx
    · exact pieceH_small [] (by simp) p (k4 p (by simp)) x hx
    · obtain ⟨q, hq, hx⟩ := List.mem_flatMap.1 hx
      exact pieceH_small [59] (by simp) q (k4 q (by simp [hq])) x hx
theorem joinP_len : ∀ (l : List (List UInt8 × List UInt8)), (∀ x ∈ l, x.1.length + x.2.length ≤ 5) → (joinP l).length ≤ 5 * l.length
  | [], _ => by simp [joinP]
  | x :: l, h => by
    have h1 := h x (by simp)
    have h2 := joinP_len l fun y hy => h y (by simp [hy])
    have e : joinP (x :: l) = (x.1 ++ x.2) ++ joinP l := rfl
    rw [e, List.length_append, List.length_append, List.length_cons]
    omega
theorem pieces_total (r : List (List Int)) (hok : okRow r = true) : (joinP (pieces r)).length ≤ 480 := by
  obtain ⟨k1, -, k3⟩ := okRow_iff.1 hok
  have h1 := joinP_len _ (pieces_small r hok)
  have h2 := pieces_len r k1 (fun p hp => (okPart_iff.1 (k3 p hp)).2.1) r.length (Nat.le_refl _)
  rw [List.take_length] at h2
  omega
theorem joinP_snoc (l : List (List UInt8 × List UInt8)) (x : List UInt8 × List UInt8) : joinP (l ++ [x]) = joinP l ++ (x.1 ++ x.2) := by simp [joinP]
/-- A builder lies on where its block, and its bytes' block, lie on. -/
theorem bld_kept {T e : TypeId} {B b : Nat} {bs : List Value} {W W' : World} {row : Option Nat} (h : Lib.IsBuilderF T e B b bs W) (hg : W.grownBy W' row) (hb : row ≠ some b) (hr : ∀ k c fz, row = some k → W.heap[k]? = some (.cells c e fz) → False) : Lib.IsBuilderF T e B b bs W' := by
  have key : ∀ p, Lib.BuilderAtF T e B b p bs W → Lib.BuilderAtF T e B b p bs W' := by
    rintro p ⟨hB, v, hbk, hown, hne⟩
    refine ⟨hB, v, (hg.block b (Array.getElem?_eq_some_iff.1 hbk).1 (fun e => hb e.symm)).trans hbk, hown.kept hg ?_, hne⟩
    rcases hown.2 with ⟨rfl, _⟩ | ⟨g, cap, cur, fz, rfl, _, hgb, _⟩
    · exact .inl rfl
    · refine .inr fun e => ?_
      exact hr g cur fz (by simpa [Value.ownBlock] using e.symm) hgb
  exact h.elim (fun h => .inl (key _ h)) (fun h => .inr (key _ h))
theorem parts40 (a : Option Addr) (n cap : Nat) (w : World) : Calls Tryd.prog 40 #[.slice a n cap] w (fun e w' => e = .returned (.func (.func 76) #[] #[.pointer (some ⟨w.heap.size, 0, none⟩)]) ∧ w' = w.alloc (.cells #[.slice a n cap] 29)) := by
  go_enter Tryd.func40, Tryd.ntmps40
  go_wp2
  go_ret
  exact ⟨rfl, rfl⟩
set_option maxRecDepth 100000 in
set_option maxHeartbeats 4000000 in
theorem print_run (v : Value) (r : List (List Int)) (w : World) (hok : okRow r = true) (h : RowAt w v r) (hg : GT w) : Calls Tryd.prog 25 #[v] w (Ret (.tuple #[.string ⟨(rowT r).toArray⟩, .int .i64 0]) w) := by
  obtain ⟨k1, k2, k3⟩ := okRow_iff.1 hok
  have k4 : ∀ p ∈ r, 1 ≤ p.length ∧ p.length ≤ 6 := fun p hp => by
    obtain ⟨q1, q2, q3⟩ := okPart_iff.1 (k3 p hp)
    exact ⟨List.length_pos_iff.2 q1, q2⟩
  have HC := Lib.hid (check_row v r (by omega) (fun p hp => by have := k4 p hp; omega) w h)
  have he : pensErr r = 0 := by simp [pensErr, hok]
  rw [he] at HC
  have hall := join_pieces r (fun p hp => (okPart_iff.1 (k3 p hp)).1)
  have htot := pieces_total r hok
  refine (callsIn_wide (n := 6)).1 ?_
  refine callsIn_of_wp_marks Tryd.func25 rfl trivial ?_ rfl
  simp only [Tryd.ntmps25, List.size_toArray, List.length_cons, List.length_nil, Nat.reduceAdd, Nat.reduceSub, Array.replicate_succ, Array.replicate_zero, List.push_toArray, List.append_toArray, List.nil_append, List.cons_append]
  obtain ⟨a, cap, rfl, hcap, hin⟩ := id h
  gi_wp2_with (first | (refine ⟨trivial, ?_⟩; gi_at_call 27; refine (callsIn_wide.2 HC.out).mono ?_; rintro e w' ⟨rfl, h1, d1, rfl⟩) | (refine ⟨trivial, ?_⟩; gi_at_call 40; refine (callsIn_wide.2 (parts40 _ _ _ _)).mono ?_; rintro e w' ⟨rfl, rfl⟩))
  obtain ⟨W0, hW0⟩ : ∃ W0, ((ext w h1 d1).alloc (Obj.cells #[Value.pointer none, Value.slice none 0 0] 94)).alloc (Obj.cells #[Value.slice a r.length cap] 29) = W0 := ⟨_, rfl⟩
  have hG0 : Grows w W0 := by rw [← hW0]; exact (by repeat' (first | (with_reducible exact Grows.refl _) | (with_reducible refine Grows.alloc ?_ _) | (with_reducible refine Grows.drew ?_) | (with_reducible refine Grows.ext ?_ _ _)))
  have hsz : W0.heap.size = w.heap.size + h1.size + 2 := by rw [← hW0]; simp
  have hbB : W0.heap[w.heap.size + h1.size]? = some (.cells #[Value.pointer none, Value.slice none 0 0] 94 (0, 0)) := by
    rw [← hW0]
    have e : (ext w h1 d1).heap.size = w.heap.size + h1.size := by simp
    rw [← e]
    exact (Below.heap_alloc _ _ _ (by simp)).trans (heap_alloc_new (ext w h1 d1) _)
  have hbC : Boxed W0 (w.heap.size + h1.size + 1) 29 (.slice a r.length cap) := by
    rw [← hW0]
    have := Boxed.new ((ext w h1 d1).alloc (Obj.cells #[Value.pointer none, Value.slice none 0 0] 94)) 29 (Value.slice a r.length cap)
    simpa using this
  have hI0 : Lib.IsBuilderF 94 5 w.heap.size (w.heap.size + h1.size) [] W0 := .inl ⟨by omega, _, hbB, World.ownsRowF_nil _ _ _ _, by simp [Value.ownBlock]⟩
  rw [hW0]
  clear hW0
  refine wpIn_range (gf := 76) (lb := #[.pointer (some ⟨w.heap.size + h1.size + 1, 0, none⟩)]) rfl (enters_of Tryd.func76 (by kernel_rfl) rfl)
    (parts_gives (6 - 1) (w.heap.size + h1.size + 1) (by omega) r w W0 hok hG0 ⟨_, hbC, h⟩ hg) (by omega) (by omega) (fun _ => rfl)
    (fun pre W => Lib.IsBuilderF 94 5 w.heap.size (w.heap.size + h1.size) (Lib.byteCells (joinP pre)) W ∧ (∃ v, Boxed W (w.heap.size + h1.size + 1) 29 v) ∧ Below w.heap.size w W ∧ W0.heap.size ≤ W.heap.size)
    ?own ?setC ⟨hI0, ⟨_, hbC⟩, hG0.below, Nat.le_refl _⟩
    (fun x a' _ => a' = { tmps := #[Value.slice a r.length cap, undef, Value.string { data := #[] }, Value.int IntKind.i64 0, Value.int IntKind.i64 0, Value.pointer (some { block := w.heap.size + h1.size, off := 0 }), .string ⟨x.1.toArray⟩, .string ⟨x.2.toArray⟩, Value.slice a r.length cap, Value.int IntKind.i64 0, Value.int IntKind.i64 0, Value.bool false, undef, Value.slice a r.length cap, Value.func (Fn.func 76) #[] #[Value.pointer (some { block := w.heap.size + h1.size + 1, off := 0 })], .string ⟨x.1.toArray⟩, .string ⟨x.2.toArray⟩, undef, undef, undef, undef, undef], defers := [] }) ?ax ?assign ?body ?done
  case own =>
    rintro pre W W' row ⟨hb, ⟨u, hu⟩, hB, hs⟩ hg hrow
    refine ⟨bld_kept hb hg (fun e => ?_) (fun k c fz e hk => ?_), ⟨u, hu.kept hg fun e => ?_⟩, ?_, Nat.le_trans hs hg.size⟩
    · have := (hrow _ e).1
      omega
    · obtain ⟨-, o, ho, hc⟩ := hrow _ e
      rw [hk] at ho; cases ho; cases hc
    · have := (hrow _ e.symm).1
      omega
    · exact hB.grown hg (by omega) (fun k e => by have := (hrow k e).1; omega)
  case setC =>
    rintro pre W v ⟨hb, ⟨u, hu⟩, hB, hs⟩
    refine ⟨bld_kept hb (grownBy_setCell' W _ v) (fun e => ?_) (fun k c fz e hk => ?_), ⟨v, hu.set v⟩, hB.setCell (p := ⟨w.heap.size + h1.size + 1, 0, none⟩) (by show w.heap.size ≤ w.heap.size + h1.size + 1; omega) v, ?_⟩
    · injection e with e
      omega
    · injection e with e
      subst e
      rw [show W.heap[w.heap.size + h1.size + 1]? = _ from hu] at hk
      cases hk
    · have := (KeepsOthers.setCell W ⟨w.heap.size + h1.size + 1, 0, none⟩ v).size
      omega
  case ax =>
    rintro x a' W W' row ha _ _
    exact ha
  case assign =>
    rintro l pre x W hI
    dsimp only [two]
    gi_wp2
    exact ⟨⟨Below.refl _ _, KeepsOthers.refl _, fun _ e => e⟩, hI, trivial⟩
  case body =>
    rintro l pre x a' W ⟨hb, ⟨u, hu⟩, hB, hs⟩ rfl ⟨suf, hsuf⟩
    have hx : (joinP pre).length + (x.1.length + x.2.length) ≤ 480 := by
      rw [hsuf] at htot
      have e : joinP (pre ++ x :: suf) = joinP pre ++ ((x.1 ++ x.2) ++ joinP suf) := by simp [joinP]
      rw [e, List.length_append, List.length_append, List.length_append] at htot
      omega
    obtain ⟨xa, xb⟩ := x
    dsimp only at hx
    have sa : (⟨xa.toArray⟩ : ByteArray).size = xa.length := by simp [ByteArray.size]
    have sb : (⟨xb.toArray⟩ : ByteArray).size = xb.length := by simp [ByteArray.size]
    have sab : (⟨(xa ++ xb).toArray⟩ : ByteArray).size = xa.length + xb.length := by simp [ByteArray.size]
    have hsum : (⟨xa.toArray⟩ : ByteArray).size + (⟨xb.toArray⟩ : ByteArray).size ≤ 9223372036854775807 := by omega
    have hadd := run_string_add_sum (P := Tryd.prog) W ⟨xa.toArray⟩ ⟨xb.toArray⟩ hsum
    rw [ByteArray.mk_append_mk] at hadd
    have hlen : (Lib.byteCells (joinP pre)).length + (⟨(xa ++ xb).toArray⟩ : ByteArray).size ≤ 140737488355328 := by rw [Lib.byteCells_length, sab]; omega
    have HW := Lib.hid (write_any w.heap.size (w.heap.size + h1.size) _ ⟨(xa ++ xb).toArray⟩ W hb hlen hB.size)
    clear hlen hsum sab sa sb
    gi_wp2_with (refine ⟨trivial, ?_⟩; gi_at_call 41; refine (CallsIn.inRound l (callsIn_wide.2 HW.out)).mono ?_; rintro e w' ⟨rfl, hb2, hB2, hk2⟩)
    have hbb : ∃ c, W.heap[w.heap.size + h1.size]? = some (.cells c 94 (0, 0)) := by
      rcases hb with ⟨-, v, hbk, -, -⟩ | ⟨-, v, hbk, -, -⟩
      · exact ⟨_, hbk⟩
      · exact ⟨_, hbk⟩
    obtain ⟨cb, hcb⟩ := hbb
    have hu2 : Boxed w' (w.heap.size + h1.size + 1) 29 u := hk2 _ _ hu (by intro e; injection e with e; omega) (by intro c fz e; cases e)
    refine ⟨⟨hB2, ⟨hB2.size, fun k o hk ho => hk2 k o hk (fun e => ?_) (fun c fz e => by rw [e] at ho; cases ho)⟩, fun o ho => ?_⟩, .inr ?_, ⟨u, hu2⟩, hB.trans hB2, Nat.le_trans hs hB2.size⟩
    · injection e with e
      subst e
      rw [hcb] at hk
      injection hk with hk
      subst hk
      cases ho
    · rw [show W.heap[w.heap.size + h1.size + 1]? = _ from hu] at ho
      injection ho with ho
      subst ho
      exact hu2
    · rw [joinP_snoc, Lib.byteCells_append]
      rw [Lib.strCells_eq] at hb2
      exact hb2
  case done =>
    rintro D W hD ⟨hb, ⟨u, hu⟩, hB, hs⟩ hK
    have HX := Lib.hid (text_any w.heap.size (w.heap.size + h1.size) _ W hb hB.size)
    rw [hall] at HX
    gi_wp2_with (refine ⟨trivial, ?_⟩; gi_at_call 42; refine (callsIn_wide.2 HX.out).mono ?_; rintro e w' ⟨rfl, hB2, hk2⟩)
    have hK2 := hk2 D _ hK (by intro e; injection e with e; omega) (by intro c fz e; cases e)
    refine ⟨by simp, .inl ⟨_, _, rfl, run_takeDeferred hK2, ?_⟩⟩
    refine ⟨_, results_tmp2 rfl _ _ _, rfl, Grows.of_below ((hB.trans hB2).grown (grownBy_putObj' w' D (.deferred none)) (hB.trans hB2).size (fun k e => by cases e; omega))⟩
theorem print_bad (v : Value) (r : List (List Int)) (hl : r.length ≤ 100000) (hp : ∀ p ∈ r, p.length ≤ 100000) (w : World) (hok : okRow r = false) (h : RowAt w v r) : Calls Tryd.prog 25 #[v] w (Ret (.tuple #[.string ⟨#[]⟩, .int .i64 150]) w) := by
  have HC := Lib.hid (check_row v r hl hp w h)
  have he : pensErr r = 150 := by simp [pensErr, hok]
  rw [he] at HC
  obtain ⟨a, cap, rfl, hcap, hin⟩ := h
  go_enter Tryd.func25, Tryd.ntmps25
  go_wp2_with (first | (go_at_call 27; (with_reducible refine (HC.out).mono ?_); rintro e w' ⟨rfl, h90, d90, rfl⟩))
  go_returns
  exact ⟨rfl, (by repeat' (first | (with_reducible exact Grows.refl _) | (with_reducible refine Grows.alloc ?_ _) | (with_reducible refine Grows.drew ?_) | (with_reducible refine Grows.ext ?_ _ _)))⟩
def printT (r : List (List Int)) : List UInt8 := if okRow r then rowT r else []
theorem print_any (v : Value) (r : List (List Int)) (hl : r.length ≤ 100000) (hp : ∀ p ∈ r, p.length ≤ 100000) (w : World) (h : RowAt w v r) (hg : GT w) : Calls Tryd.prog 25 #[v] w (Ret (.tuple #[.string ⟨(printT r).toArray⟩, .int .i64 (pensErr r)]) w) := by
  by_cases hok : okRow r = true
  · have he : pensErr r = 0 := by simp [pensErr, hok]
    have ht : printT r = rowT r := by simp [printT, hok]
    rw [he, ht]
    exact print_run v r w hok h hg
  · have hok' : okRow r = false := by simpa using hok
    have he : pensErr r = 150 := by simp [pensErr, hok']
    have ht : printT r = [] := by simp [printT, hok']
    rw [he, ht]
    exact print_bad v r hl hp w hok' h
end Go.Proofs.YtobbphkfdhjmdaaDoor

namespace Go.Proofs.YtobbphkfdhjmdaaDoor
open Go.RowKit

def pensF : Nat → List (List Int) → List Pen
  | 0, _ => []
  | _ + 1, [] => []
  | n + 1, x :: l => (if (frontP (x :: l)).1.2 then [(frontP (x :: l)).1.1] else []) ++ pensF n ((x :: l).drop (frontP (x :: l)).2)
theorem pensF_eq : ∀ (n : Nat) (l : List (List Int)), l.length ≤ n → pensF n l = pensL l
  | 0, [], _ => by simp [pensF, pensL]
  | 0, _ :: _, h => by simp at h
  | _ + 1, [], _ => by simp [pensF, pensL]
  | n + 1, x :: l, h => by
    have hp := frontP_pos x l
    rw [pensF, pensL_cons, pensF_eq n _ (by simp only [List.length_drop, List.length_cons] at h ⊢; omega)]
/-- The text s says the pens l. -/
def saysB (s : ByteArray) (l : List Pen) : Bool := (parseS s).2 == 0 && (okRow (parseS s).1 && (if (parseS s).1.isEmpty then decide (l = [pen 0 0]) else decide (pensF 16 (parseS s).1 = l)))
theorem says_pens {s : ByteArray} {l : List Pen} (h : saysB s l = true) : (parseS s).2 = 0 ∧ okRow (parseS s).1 = true ∧ pensOf (parseS s).1 = l := by
  simp only [saysB, Bool.and_eq_true, beq_iff_eq] at h
  obtain ⟨h1, h2, h3⟩ := h
  refine ⟨h1, h2, ?_⟩
  unfold pensOf
  rw [if_pos h2]
  split at h3
  · rename_i he
    rw [if_pos he]
    exact (of_decide_eq_true h3).symm
  · rename_i he
    rw [if_neg he, ← pensF_eq 16 _ (okRow_iff.1 h2).1]
    exact of_decide_eq_true h3
theorem sameA_refl (a : ActV) : sameA a a = true := by simp [sameA]
theorem sameL_refl : ∀ l : List ActV, sameL l l = true
  | [] => rfl
  | a :: l => by simp [sameL, sameA_refl, sameL_refl l]
theorem parse_small : ∀ (l : List UInt8) (r : List (List Int)), r.length ≤ 16 → (∀ p ∈ r, p.length ≤ 6) → (parseR r l).1.length ≤ 16 ∧ ∀ p ∈ (parseR r l).1, p.length ≤ 6
  | [], r, h1, h2 => ⟨h1, h2⟩
  | c :: l, r, _, _ => by
    rw [parse_snoc]
    split
    · exact parse_small l _ (stepR_small r c).1 (stepR_small r c).2
    · simp
theorem parseS_small (s : ByteArray) : (parseS s).1.length ≤ 16 ∧ ∀ p ∈ (parseS s).1, p.length ≤ 6 := by
  unfold parseS
  split
  · simp
  · exact parse_small _ [] (by simp) (by simp)
theorem acts_at {w : World} {g : Nat} {l : List ActV} (h : w.heap[g]? = some (.cells (actsC l).toArray 26 (0, 0))) (hl : l.length ≤ 1000) : ActsAt w (.slice (some ⟨g, 0, none⟩) l.length l.length) l := by
  refine OwnA.at_ (base := 0) ⟨actsC_len l, .inr ⟨g, l.length, _, rfl, Nat.zero_le _, h, Nat.le_refl _, by unfold maxLen; omega, by simp [actsC_len], ?_⟩⟩
  rw [← actsC_len]
  simp
set_option maxHeartbeats 1000000 in
theorem says_true (s : ByteArray) (v : Value) (l : List Pen) (w : World) (hb : saysB s l = true) (h : ActsAt w v (l.map actP)) (hg : GL w) : Calls Tryd.prog 10 #[.string s, v] w (Ret (.bool true) w) := by
  obtain ⟨p1, p2, p3⟩ := says_pens hb
  have hsm := parseS_small s
  have hlen : l.length ≤ 100000 := by
    have := pensL_len _ (parseS s).1 (Nat.le_refl _)
    rw [← p3]
    unfold pensOf
    rw [if_pos p2]
    split
    · simp
    · omega
  have HP := Lib.hid (parse_any s w)
  have HN := Lib.hid fun x W (hW : RowAt W x (parseS s).1) (hG : Grows w W) => sgrPens_any x (parseS s).1 (by omega) (fun p hp => by have := hsm.2 p hp; omega) W hW (hg.grows hG)
  have hpe : pensErr (parseS s).1 = 0 := by simp [pensErr, p2]
  rw [p3, hpe] at HN
  have HS := Lib.hid fun x W (hx : ActsAt W x (l.map actP)) (hG : Grows w W) => same_all x v (l.map actP) (l.map actP) (by simpa using hlen) (by simpa using hlen) W hx (h.grows hG)
  rw [sameL_refl] at HS
  unfold StepPost at HP
  rw [p1] at HP
  obtain ⟨va, vc, hvv, -, -⟩ := id h
  rw [List.length_map] at hvv
  subst hvv
  go_enter Tryd.func10, Tryd.ntmps10
  go_wp2_with (first | (go_at_call 26; (with_reducible refine HP.out.mono ?_); rintro e w' ⟨x, rfl, hx, hg1⟩) | (go_at_call 14; (with_reducible refine (HN.out _ _ hx hg1).mono ?_); rintro e w2 ⟨x2, rfl, hx2, hg2⟩) | (go_at_call 23; (with_reducible refine (HS.out _ _ hx2 (hg1.trans hg2)).mono ?_); rintro e w3 ⟨rfl, hg3⟩))
  go_ret
  exact ⟨rfl, (hg1.trans hg2).trans hg3⟩
end Go.Proofs.YtobbphkfdhjmdaaDoor

