/-
  Walks: which and rgb of the reference. The reference's table of the attributes. The reference: Check of a row. The reference: simple. The reference: alone. The reference: alone, of five parts. The reference: alone, of five or six parts. The reference: alone.
-/
import Derived.Test.YtobbphkfdhjmdaaDoorRows
import Derived.Test.YtobbphkfdhjmdaaDoorM1
import Derived.WalkKit
import Derived.WalkSpells
import Derived.WalkLawsBesides
import Derived.Handy
import Derived.Laws.Rows
import Derived.Great.BuildSlice
import Derived.Deep.Heap
import Derived.IntWalk
import Derived.Lib.Hide
import Derived.Outline
import Derived.Deep.Light
import Derived.Deep.LoopGhost
import Derived.BigGuardPart
import Derived.BigQuiet
import Derived.Deep.QuietTactic
import Derived.Deep.RegionHeld3
import Derived.Deep.DeepCutAuto
import Derived.Test.YtobbphkfdhjmdaaDoorM3
import Derived.Test.YtobbphkfdhjmdaaDoorM9
namespace Go.Proofs.YtobbphkfdhjmdaaDoor
open Go.RowKit

theorem which_38 (w : World) : Calls Tryd.prog 68 #[.int .i64 38] w (Ret (.int .i64 4) w) := by
  go_enter Tryd.func68, Tryd.ntmps68
  go_wp2
  go_returns
  exact ⟨rfl, (by repeat' (first | (with_reducible exact Grows.refl _) | (with_reducible refine Grows.alloc ?_ _) | (with_reducible refine Grows.drew ?_) | (with_reducible refine Grows.ext ?_ _ _)))⟩
theorem which_48 (w : World) : Calls Tryd.prog 68 #[.int .i64 48] w (Ret (.int .i64 5) w) := by
  go_enter Tryd.func68, Tryd.ntmps68
  go_wp2
  go_returns
  exact ⟨rfl, (by repeat' (first | (with_reducible exact Grows.refl _) | (with_reducible refine Grows.alloc ?_ _) | (with_reducible refine Grows.drew ?_) | (with_reducible refine Grows.ext ?_ _ _)))⟩
theorem which_58 (w : World) : Calls Tryd.prog 68 #[.int .i64 58] w (Ret (.int .i64 6) w) := by
  go_enter Tryd.func68, Tryd.ntmps68
  go_wp2
  go_returns
  exact ⟨rfl, (by repeat' (first | (with_reducible exact Grows.refl _) | (with_reducible refine Grows.alloc ?_ _) | (with_reducible refine Grows.drew ?_) | (with_reducible refine Grows.ext ?_ _ _)))⟩
theorem which_no (v : Int) (h1 : ¬ v = 38) (h2 : ¬ v = 48) (h3 : ¬ v = 58) (w : World) : Calls Tryd.prog 68 #[.int .i64 v] w (Ret (.int .i64 (-1)) w) := by
  have e1 : (v == 38) = false := by simpa using h1
  have e2 : (v == 48) = false := by simpa using h2
  have e3 : (v == 58) = false := by simpa using h3
  clear h1 h2 h3
  go_enter Tryd.func68, Tryd.ntmps68
  go_wp2
  go_returns
  exact ⟨rfl, (by repeat' (first | (with_reducible exact Grows.refl _) | (with_reducible refine Grows.alloc ?_ _) | (with_reducible refine Grows.drew ?_) | (with_reducible refine Grows.ext ?_ _ _)))⟩
theorem which_any (v : Int) (w : World) : Calls Tryd.prog 68 #[.int .i64 v] w (Ret (.int .i64 (whichV v)) w) := by
  by_cases h1 : v = 38
  · subst h1; exact which_38 w
  by_cases h2 : v = 48
  · subst h2; exact which_48 w
  by_cases h3 : v = 58
  · subst h3; exact which_58 w
  have h : whichV v = -1 := by unfold whichV; rw [if_neg h1, if_neg h2, if_neg h3]
  rw [h]
  exact which_no v h1 h2 h3 w
theorem rgb71_any (n r g b : Int) (hr : 0 ≤ r ∧ r ≤ 255) (hg : 0 ≤ g ∧ g ≤ 255) (hb : 0 ≤ b ∧ b ≤ 255) (w : World) : Calls Tryd.prog 71 #[.int .i64 n, .int .i64 r, .int .i64 g, .int .i64 b] w (Ret (.agg #[.int .i64 39, .int .i64 n, .int .i64 0, .int .i64 2, .int .i64 ((r * 65536 + g * 256 + b)), .string ⟨#[]⟩]) w) := by
  go_enter Tryd.func71, Tryd.ntmps71
  have w1 : wrap64 (r * 65536) = r * 65536 := by unfold wrap64; omega
  have w2 : wrap64 (g * 256) = g * 256 := by unfold wrap64; omega
  have w3 : wrap64 (r * 65536 + g * 256) = r * 65536 + g * 256 := by unfold wrap64; omega
  have w4 : wrap64 (r * 65536 + g * 256 + b) = r * 65536 + g * 256 + b := by unfold wrap64; omega
  go_wp2_with (first | (go_at_call 70; (with_reducible refine (col70_any _ _ _ _).mono ?_); rintro e w' ⟨rfl, h71, d71, rfl⟩))
  go_returns
  exact ⟨rfl, (by repeat' (first | (with_reducible exact Grows.refl _) | (with_reducible refine Grows.alloc ?_ _) | (with_reducible refine Grows.drew ?_) | (with_reducible refine Grows.ext ?_ _ _)))⟩
end Go.Proofs.YtobbphkfdhjmdaaDoor

namespace Go.Proofs.YtobbphkfdhjmdaaDoor
open Go.RowKit

def tabR : List Int := [1, 1, 22, 2, 2, 22, 3, 4, 23, 5, 8, 25, 7, 16, 27, 8, 32, 28, 9, 64, 29, 53, 128, 55]
theorem attrs75_any (w : World) : Calls Tryd.prog 75 #[] w (fun e w' => ∃ b, e = .returned (.slice (some ⟨b, 0, none⟩) 8 8) ∧ Grows w w' ∧ b < w'.heap.size ∧ ∀ i, i < 24 → w'.cell? ⟨b, i, none⟩ = some (.int .i64 (tabR.getD i 0))) := by
  go_enter Tryd.func75, Tryd.ntmps75
  go_wp2
  go_ret
  refine ⟨w.heap.size, rfl, (by repeat' (first | (with_reducible exact Grows.refl _) | (with_reducible refine Grows.alloc ?_ _) | (with_reducible refine Grows.drew ?_) | (with_reducible refine Grows.ext ?_ _ _))), by simp, fun i hi => ?_⟩
  have h : i = 0 ∨ i = 1 ∨ i = 2 ∨ i = 3 ∨ i = 4 ∨ i = 5 ∨ i = 6 ∨ i = 7 ∨ i = 8 ∨ i = 9 ∨ i = 10 ∨ i = 11 ∨ i = 12 ∨ i = 13 ∨ i = 14 ∨ i = 15 ∨ i = 16 ∨ i = 17 ∨ i = 18 ∨ i = 19 ∨ i = 20 ∨ i = 21 ∨ i = 22 ∨ i = 23 := by omega
  rcases h with rfl | rfl | rfl | rfl | rfl | rfl | rfl | rfl | rfl | rfl | rfl | rfl | rfl | rfl | rfl | rfl | rfl | rfl | rfl | rfl | rfl | rfl | rfl | rfl <;> first | rfl | simp [tabR] | (rw [World.cell?_alloc_self]; rfl) | (rw [cell_of_row _ _ _ _ _ _ (by simp; rfl)]; rfl)
end Go.Proofs.YtobbphkfdhjmdaaDoor

namespace Go.Proofs.YtobbphkfdhjmdaaDoor
open Go.RowKit

theorem pe_bad {r : List (List Int)} (h : okRow r ≠ true) : pensErr r = 150 := by
  cases e : okRow r with
  | false => simp [pensErr, e]
  | true => exact absurd e h
theorem pe_ok {r : List (List Int)} (h : okRow r = true) : pensErr r = 0 := by simp [pensErr, h]
set_option maxRecDepth 100000 in
set_option maxHeartbeats 8000000 in
theorem check35 (v : Value) (r : List (List Int)) (hl : r.length ≤ 100000) (hp : ∀ p ∈ r, p.length ≤ 100000) (w : World) (h : RowAt w v r) : Calls Tryd.prog 35 #[v] w (Ret (.int .i64 (pensErr r)) w) := by
  obtain ⟨a, cap, rfl, hcap, hin⟩ := h
  have Hin := Lib.hid hin
  clear hin
  by_cases h16 : r.length > 16
  · have e1 : decide ((r.length : Int) > 16) = true := by simp; omega
    have HB := Lib.hid (show okRow r ≠ true from fun h => by have := (okRow_iff.1 h).1; omega)
    go_enter Tryd.func35, Tryd.ntmps35
    go_wp2_with fail
    go_ret
    exact ⟨congrArg (fun x => Ending.returned (Value.int .i64 x)) (pe_bad HB.out).symm, (by repeat' (first | (with_reducible exact Grows.refl _) | (with_reducible refine Grows.alloc ?_ _) | (with_reducible refine Grows.drew ?_) | (with_reducible refine Grows.ext ?_ _ _)))⟩
  · have e1 : decide ((r.length : Int) > 16) = false := by simp; omega
    go_enter Tryd.func35, Tryd.ntmps35
    go_wp2_with fail
    go_loopw [3] (fun i wr' => ∃ (wv : World) (k : Nat), wv = wr' ∧ k ≤ r.length ∧ i = .int .i64 k ∧ Grows w wv ∧ ∀ p ∈ r.take k, okPart p = true) (fun i _ => r.length - (intOf i).toNat)
    case atStart => exact ⟨_, 0, rfl, Nat.zero_le _, rfl, (by repeat' (first | (with_reducible exact Grows.refl _) | (with_reducible refine Grows.alloc ?_ _) | (with_reducible refine Grows.drew ?_) | (with_reducible refine Grows.ext ?_ _ _))), by simp⟩
    case round =>
      obtain ⟨wa, k, rfl, hk, rfl, hG, hok⟩ := hrel
      by_cases hlt : k < r.length
      · have e2 : decide (k < r.length) = true := by simpa using hlt
        obtain ⟨b, off, rfl, hb, hc⟩ := Hin.out (by intro e; subst e; simp at hlt)
        obtain ⟨s, hs, is⟩ := hc k hlt
        have hpl := hp (r[k]'hlt) (List.getElem_mem hlt)
        have HM := Lib.hid (List.getElem_mem hlt)
        have HT := Lib.hid (show ∀ p ∈ r.take (k + 1), p ∈ r.take k ∨ p = r[k]'hlt by
          intro p hp
          rw [List.take_succ_eq_append_getElem hlt] at hp
          rcases List.mem_append.1 hp with hp | hp
          · exact .inl hp
          · exact .inr (by simpa using hp))
        rw [List.getElem?_eq_getElem hlt, Option.getD_some] at is
        generalize r[k]'hlt = p at *
        obtain ⟨sa, sc, rfl, hsc, js⟩ := is
        have ca := (hG.cellOf hb).trans hs
        have xa := Nat.lt_of_lt_of_le hb hG.size
        have HG := Lib.hid hG
        have HOK := Lib.hid hok
        have J := Lib.hid js
        clear hc hG hok js hp
        by_cases h1 : p.length < 1
        · have e3 : decide ((p.length : Int) < 1) = true := by simp; omega
          have HB := Lib.hid (show okRow r ≠ true from fun h => (okPart_iff.1 ((okRow_iff.1 h).2.2 p HM.out)).1 (List.length_eq_zero_iff.1 (by omega)))
          go_wp2_with fail
          go_ret
          exact ⟨congrArg (fun x => Ending.returned (Value.int .i64 x)) (pe_bad HB.out).symm, HG.out⟩
        · have e3 : decide ((p.length : Int) < 1) = false := by simp; omega
          by_cases h6 : p.length > 6
          · have e4 : decide ((p.length : Int) > 6) = true := by simp; omega
            have HB := Lib.hid (show okRow r ≠ true from fun h => by have := (okPart_iff.1 ((okRow_iff.1 h).2.2 p HM.out)).2.1; omega)
            go_wp2_with fail
            go_ret
            exact ⟨congrArg (fun x => Ending.returned (Value.int .i64 x)) (pe_bad HB.out).symm, HG.out⟩
          · have e4 : decide ((p.length : Int) > 6) = false := by simp; omega
            go_wp2_with fail
            go_loopw [4] (fun i wr' => ∃ (wv : World) (j : Nat), wv = wr' ∧ j ≤ p.length ∧ i = .int .i64 j ∧ Grows wa wv ∧ ∀ n ∈ p.take j, -1 ≤ n ∧ n ≤ 9999) (fun i _ => p.length - (intOf i).toNat)
            case atStart => exact ⟨_, 0, rfl, Nat.zero_le _, rfl, (by repeat' (first | (with_reducible exact Grows.refl _) | (with_reducible refine Grows.alloc ?_ _) | (with_reducible refine Grows.drew ?_) | (with_reducible refine Grows.ext ?_ _ _))), by simp⟩
            case round =>
              obtain ⟨wb, j, rfl, hj, rfl, hG2, hn⟩ := hrel
              have cb := (hG2.cellOf xa).trans ca
              have HN := Lib.hid hn
              by_cases hjl : j < p.length
              · have e5 : decide (j < p.length) = true := by simpa using hjl
                obtain ⟨b1, o1, rfl, hb1, hc1⟩ := J.out (by intro e; subst e; simp at hjl)
                have d1 := ((HG.out.trans hG2).cellOf hb1).trans (hc1 j hjl)
                have x1 := Nat.lt_of_lt_of_le hb1 (HG.out.trans hG2).size
                rw [List.getElem?_eq_getElem hjl, Option.getD_some] at d1
                have HMn := Lib.hid (List.getElem_mem hjl)
                have HTn := Lib.hid (show ∀ n ∈ p.take (j + 1), n ∈ p.take j ∨ n = p[j]'hjl by
                  intro p hp
                  rw [List.take_succ_eq_append_getElem hjl] at hp
                  rcases List.mem_append.1 hp with hp | hp
                  · exact .inl hp
                  · exact .inr (by simpa using hp))
                have HG2 := Lib.hid hG2
                generalize p[j]'hjl = n at *
                clear hc1 hG2 ca hn
                by_cases n1 : n < -1
                · have e6 : decide (n < -1) = true := by simpa using n1
                  have HB := Lib.hid (show okRow r ≠ true from fun h => by have := (okPart_iff.1 ((okRow_iff.1 h).2.2 p HM.out)).2.2 n HMn.out; omega)
                  go_wp2_with fail
                  go_ret
                  exact ⟨congrArg (fun x => Ending.returned (Value.int .i64 x)) (pe_bad HB.out).symm, HG.out.trans HG2.out⟩
                · have e6 : decide (n < -1) = false := by simpa using n1
                  by_cases n2 : n > 9999
                  · have e7 : decide (n > 9999) = true := by simpa using n2
                    have HB := Lib.hid (show okRow r ≠ true from fun h => by have := (okPart_iff.1 ((okRow_iff.1 h).2.2 p HM.out)).2.2 n HMn.out; omega)
                    go_wp2_with fail
                    go_ret
                    exact ⟨congrArg (fun x => Ending.returned (Value.int .i64 x)) (pe_bad HB.out).symm, HG.out.trans HG2.out⟩
                  · have e7 : decide (n > 9999) = false := by simpa using n2
                    go_wp2_with fail
                    go_roundw
                    case rel =>
                      refine ⟨_, j + 1, rfl, by omega, by go_num, HG2.out, fun m hm => ?_⟩
                      rcases HTn.out m hm with hm | rfl
                      · exact HN.out m hm
                      · omega
                    case measure => simp [intOf]; omega
              · have e5 : decide (j < p.length) = false := by simpa using hjl
                have HG2 := Lib.hid hG2
                clear hG2 hn
                go_wp2_with fail
                go_roundw
                case rel =>
                  refine ⟨_, k + 1, rfl, by omega, by go_num, HG.out.trans HG2.out, fun q hq => ?_⟩
                  rcases HT.out q hq with hq | rfl
                  · exact HOK.out q hq
                  · have hN := HN.out
                    rw [List.take_of_length_le (by omega)] at hN
                    exact okPart_iff.2 ⟨fun e => by subst e; simp at h1, by omega, hN⟩
                case measure => simp [intOf]; omega
      · have e2 : decide (k < r.length) = false := by simpa using hlt
        have hall : ∀ p ∈ r, okPart p = true := by rw [← List.take_of_length_le (l := r) (i := k) (by omega)]; exact hok
        have HALL := Lib.hid hall
        have HG := Lib.hid hG
        clear hall hok hG
        by_cases hr1 : r.length = 1
        · obtain ⟨p0, rfl⟩ := List.length_eq_one_iff.1 hr1
          obtain ⟨bx, ox, rfl, hbx, hcx⟩ := Hin.out (by simp)
          obtain ⟨s0, cs, is⟩ := hcx 0 (by simp)
          simp only [List.getElem?_cons_zero, Option.getD_some, Nat.add_zero] at is cs
          obtain ⟨ya, yc, rfl, hyc, hyi⟩ := is
          have HY := Lib.hid hyi
          have cs' := (HG.out.cellOf hbx).trans cs
          have e2' : decide (k < 1) = false := by simpa using hlt
          clear hcx hyi cs
          by_cases hp1 : p0.length = 1
          · obtain ⟨y0, rfl⟩ := List.length_eq_one_iff.1 hp1
            obtain ⟨bz, oz, rfl, hbz, hcz⟩ := HY.out (by simp)
            have cz := (HG.out.cellOf hbz).trans (hcz 0 (by simp))
            simp only [List.getElem?_cons_zero, Option.getD_some, Nat.add_zero] at cz
            clear hcz
            by_cases hy : y0 = -1
            · subst hy
              have HB := Lib.hid (show okRow [[-1]] ≠ true by decide)
              go_wp2_with fail
              go_ret
              exact ⟨congrArg (fun x => Ending.returned (Value.int .i64 x)) (pe_bad HB.out).symm, HG.out⟩
            · have e5 : (y0 == -1) = false := by simpa using hy
              have e6 : decide (y0 = -1) = false := by simpa using hy
              have HB := Lib.hid (okRow_iff.2 ⟨by simp, fun e => by simp at e; exact hy e, HALL.out⟩)
              go_wp2_with fail
              go_ret
              exact ⟨congrArg (fun x => Ending.returned (Value.int .i64 x)) (pe_ok HB.out).symm, HG.out⟩
          · have e4 : decide (p0.length = 1) = false := by simpa using hp1
            have e5 : (((p0.length : Nat) : Int) == 1) = false := by simp; omega
            have e6 : ¬ ((p0.length : Nat) : Int) = 1 := by omega
            have HB := Lib.hid (okRow_iff.2 ⟨by simp, fun e => hp1 (by simp at e; rw [e]; rfl), HALL.out⟩)
            go_wp2_with fail
            go_ret
            exact ⟨congrArg (fun x => Ending.returned (Value.int .i64 x)) (pe_ok HB.out).symm, HG.out⟩
        · have e4 : decide (r.length = 1) = false := by simpa using hr1
          have e5 : (((r.length : Nat) : Int) == 1) = false := by simp; omega
          have e6 : ¬ ((r.length : Nat) : Int) = 1 := by omega
          have HB := Lib.hid (okRow_iff.2 ⟨by omega, fun e => hr1 (by rw [e]; rfl), HALL.out⟩)
          go_wp2_with fail
          go_ret
          exact ⟨congrArg (fun x => Ending.returned (Value.int .i64 x)) (pe_ok HB.out).symm, HG.out⟩
end Go.Proofs.YtobbphkfdhjmdaaDoor

namespace Go.Proofs.YtobbphkfdhjmdaaDoor
open Go.RowKit

/-- An answer of the reference: a pen, or the zero action. -/
def ansC (q : Pen × Bool) : Array Value := if q.2 then #[.int .i64 39, .int .i64 q.1.n, .int .i64 q.1.m, .int .i64 q.1.ck, .int .i64 q.1.cn, .string ⟨#[]⟩] else #[.int .i64 0, .int .i64 0, .int .i64 0, .int .i64 0, .int .i64 0, .string ⟨#[]⟩]
theorem tab_set (k : Nat) (hk : k < 8) : simpleP (tabR.getD (k * 3) 0) = (pen 1 (tabR.getD (k * 3 + 1) 0), true) := by
  obtain rfl | rfl | rfl | rfl | rfl | rfl | rfl | rfl : k = 0 ∨ k = 1 ∨ k = 2 ∨ k = 3 ∨ k = 4 ∨ k = 5 ∨ k = 6 ∨ k = 7 := by omega
  all_goals decide
theorem tab_clr (k : Nat) (hk : k < 8) (h : tabR.getD (k * 3 + 2) 0 ≠ 22) : simpleP (tabR.getD (k * 3 + 2) 0) = (pen 2 (tabR.getD (k * 3 + 1) 0), true) := by
  obtain rfl | rfl | rfl | rfl | rfl | rfl | rfl | rfl : k = 0 ∨ k = 1 ∨ k = 2 ∨ k = 3 ∨ k = 4 ∨ k = 5 ∨ k = 6 ∨ k = 7 := by omega
  all_goals first | exact absurd rfl h | decide
theorem no_tab {v : Int} (h : ∀ j, j < 8 → v ≠ tabR.getD (j * 3) 0 ∧ (v = tabR.getD (j * 3 + 2) 0 → v = 22)) : v ≠ 1 ∧ v ≠ 2 ∧ v ≠ 3 ∧ v ≠ 5 ∧ v ≠ 7 ∧ v ≠ 8 ∧ v ≠ 9 ∧ v ≠ 53 ∧ v ≠ 23 ∧ v ≠ 25 ∧ v ≠ 27 ∧ v ≠ 28 ∧ v ≠ 29 ∧ v ≠ 55 := by
  have h0 := h 0 (by omega)
  have h1 := h 1 (by omega)
  have h2 := h 2 (by omega)
  have h3 := h 3 (by omega)
  have h4 := h 4 (by omega)
  have h5 := h 5 (by omega)
  have h6 := h 6 (by omega)
  have h7 := h 7 (by omega)
  simp [tabR] at h0 h1 h2 h3 h4 h5 h6 h7
  omega
theorem simple_none {v : Int} (h : v ≠ 1 ∧ v ≠ 2 ∧ v ≠ 3 ∧ v ≠ 5 ∧ v ≠ 7 ∧ v ≠ 8 ∧ v ≠ 9 ∧ v ≠ 53 ∧ v ≠ 23 ∧ v ≠ 25 ∧ v ≠ 27 ∧ v ≠ 28 ∧ v ≠ 29 ∧ v ≠ 55) (h2 : v ≠ 0 ∧ v ≠ 4 ∧ v ≠ 6 ∧ v ≠ 21 ∧ v ≠ 22 ∧ v ≠ 24 ∧ v ≠ 39 ∧ v ≠ 49 ∧ v ≠ 59) (h3 : ¬ (30 ≤ v ∧ v ≤ 37)) (h4 : ¬ (40 ≤ v ∧ v ≤ 47)) (h5 : ¬ (90 ≤ v ∧ v ≤ 97)) (h6 : ¬ (100 ≤ v ∧ v ≤ 107)) : simpleP v = (noPen, false) := by
  obtain ⟨a1, a2, a3, a5, a7, a8, a9, a53, a23, a25, a27, a28, a29, a55⟩ := h
  obtain ⟨b0, b4, b6, b21, b22, b24, b39, b49, b59⟩ := h2
  simp [simpleP, simpleV, a1, a2, a3, a5, a7, a8, a9, a53, a23, a25, a27, a28, a29, a55, b0, b4, b6, b21, b22, b24, b39, b49, b59, h3, h4, h5, h6]
set_option maxRecDepth 100000 in
set_option maxHeartbeats 8000000 in
theorem simple91 (v : Int) (hv0 : 0 ≤ v) (hv1 : v < 9223372036854775808) (w : World) : Calls Tryd.prog 91 #[.int .i64 v] w (Ret (.tuple #[.agg (ansC (simpleP v)), .bool (simpleP v).2]) w) := by
  go_enter Tryd.func91, Tryd.ntmps91
  go_wp2_with (go_at_call 75; (with_reducible refine (attrs75_any _).mono ?_); rintro e wt ⟨b, rfl, ⟨ht, dt, rfl⟩, hbt, hct⟩)
  have HCT := Lib.hid hct
  clear hct
  go_loopw [5] (fun i wr' => ∃ (k : Nat), wr' = ext (w.alloc (.cells #[.int .i64 0, .int .i64 0, .int .i64 0, .int .i64 0, .int .i64 0, .string ⟨#[]⟩] 26)) ht dt ∧ k ≤ 8 ∧ i = .int .i64 k ∧ ∀ j, j < k → v ≠ tabR.getD (j * 3) 0 ∧ (v = tabR.getD (j * 3 + 2) 0 → v = 22)) (fun i _ => 8 - (intOf i).toNat)
  case atStart => exact ⟨0, rfl, by omega, rfl, fun j hj => by omega⟩
  case round =>
    obtain ⟨k, rfl, hk, rfl, hno⟩ := hrel
    by_cases hlt : k < 8
    · have e1 : decide ((k : Int) < 8) = true := by simp; omega
      have c0 := HCT.out (k * 3) (by omega)
      have c1 := HCT.out (k * 3 + 1) (by omega)
      have c2 := HCT.out (k * 3 + 2) (by omega)
      have hs := tab_set k hlt
      have hc := tab_clr k hlt
      generalize hta : tabR.getD (k * 3) 0 = ta at *
      generalize htb : tabR.getD (k * 3 + 1) 0 = tb at *
      generalize htc : tabR.getD (k * 3 + 2) 0 = tc at *
      have HNO := Lib.hid hno
      have HTC := Lib.hid (And.intro hta htc)
      have HS := Lib.hid hs
      have HC := Lib.hid hc
      clear hno hta htb htc hs hc
      by_cases ha : v = ta
      · subst ha
        have e2 : (v == v) = true := by simp
        rw [HS.out]
        go_wp2_with (first | (go_at_call 36; (with_reducible refine (pen36_any _ _ _).mono ?_); rintro e w' ⟨rfl, h3, d3, rfl⟩))
        go_returns
        exact ⟨rfl, (by repeat' (first | (with_reducible exact Grows.refl _) | (with_reducible refine Grows.alloc ?_ _) | (with_reducible refine Grows.drew ?_) | (with_reducible refine Grows.ext ?_ _ _)))⟩
      · have e2 : (v == ta) = false := by simpa using ha
        by_cases hb : v = tc ∧ v ≠ 22
        · obtain ⟨hb1, hb2⟩ := hb
          subst hb1
          have e3 : (v == v) = true := by simp
          have e4 : (v != 22) = true := by simpa using hb2
          rw [HC.out hb2]
          go_wp2_with (first | (go_at_call 36; (with_reducible refine (pen36_any _ _ _).mono ?_); rintro e w' ⟨rfl, h3, d3, rfl⟩))
          go_returns
          exact ⟨rfl, (by repeat' (first | (with_reducible exact Grows.refl _) | (with_reducible refine Grows.alloc ?_ _) | (with_reducible refine Grows.drew ?_) | (with_reducible refine Grows.ext ?_ _ _)))⟩
        · have hnx : ∀ j, j < k + 1 → v ≠ tabR.getD (j * 3) 0 ∧ (v = tabR.getD (j * 3 + 2) 0 → v = 22) := by
            intro j hj
            by_cases e : j < k
            · exact HNO.out j e
            · obtain rfl : j = k := by omega
              rw [HTC.out.1, HTC.out.2]
              exact ⟨ha, fun e => Decidable.byContradiction fun h => hb ⟨e, h⟩⟩
          have HNX := Lib.hid hnx
          clear hnx
          by_cases hb1 : v = tc
          · have e3 : (v == tc) = true := by simpa using hb1
            have e4 : (v != 22) = false := by
              have : v = 22 := Decidable.byContradiction fun h => hb ⟨hb1, h⟩
              simp [this]
            go_wp2_with fail
            go_roundw
            case rel => exact ⟨k + 1, by first | rfl | trivial, by omega, by go_num, HNX.out⟩
            case measure => simp [intOf]; omega
          · have e3 : (v == tc) = false := by simpa using hb1
            go_wp2_with fail
            go_roundw
            case rel => exact ⟨k + 1, by first | rfl | trivial, by omega, by go_num, HNX.out⟩
            case measure => simp [intOf]; omega
    · obtain rfl : k = 8 := by omega
      have HN := Lib.hid (no_tab hno)
      clear hno
      by_cases h0 : v = 0
      · subst h0
        rw [show simpleP 0 = (pen 0 0, true) by decide]
        go_wp2_with (first | (go_at_call 36; (with_reducible refine (pen36_any _ _ _).mono ?_); rintro e w' ⟨rfl, h3, d3, rfl⟩) | (go_at_call 70; (with_reducible refine (col70_any _ _ _ _).mono ?_); rintro e w' ⟨rfl, h3, d3, rfl⟩))
        go_returns
        exact ⟨rfl, (by repeat' (first | (with_reducible exact Grows.refl _) | (with_reducible refine Grows.alloc ?_ _) | (with_reducible refine Grows.drew ?_) | (with_reducible refine Grows.ext ?_ _ _)))⟩
      by_cases h4 : v = 4
      · subst h4
        rw [show simpleP 4 = (pen 3 1, true) by decide]
        go_wp2_with (first | (go_at_call 36; (with_reducible refine (pen36_any _ _ _).mono ?_); rintro e w' ⟨rfl, h3, d3, rfl⟩) | (go_at_call 70; (with_reducible refine (col70_any _ _ _ _).mono ?_); rintro e w' ⟨rfl, h3, d3, rfl⟩))
        go_returns
        exact ⟨rfl, (by repeat' (first | (with_reducible exact Grows.refl _) | (with_reducible refine Grows.alloc ?_ _) | (with_reducible refine Grows.drew ?_) | (with_reducible refine Grows.ext ?_ _ _)))⟩
      by_cases h6 : v = 6
      · subst h6
        rw [show simpleP 6 = (pen 1 8, true) by decide]
        go_wp2_with (first | (go_at_call 36; (with_reducible refine (pen36_any _ _ _).mono ?_); rintro e w' ⟨rfl, h3, d3, rfl⟩) | (go_at_call 70; (with_reducible refine (col70_any _ _ _ _).mono ?_); rintro e w' ⟨rfl, h3, d3, rfl⟩))
        go_returns
        exact ⟨rfl, (by repeat' (first | (with_reducible exact Grows.refl _) | (with_reducible refine Grows.alloc ?_ _) | (with_reducible refine Grows.drew ?_) | (with_reducible refine Grows.ext ?_ _ _)))⟩
      by_cases h21 : v = 21
      · subst h21
        rw [show simpleP 21 = (pen 3 2, true) by decide]
        go_wp2_with (first | (go_at_call 36; (with_reducible refine (pen36_any _ _ _).mono ?_); rintro e w' ⟨rfl, h3, d3, rfl⟩) | (go_at_call 70; (with_reducible refine (col70_any _ _ _ _).mono ?_); rintro e w' ⟨rfl, h3, d3, rfl⟩))
        go_returns
        exact ⟨rfl, (by repeat' (first | (with_reducible exact Grows.refl _) | (with_reducible refine Grows.alloc ?_ _) | (with_reducible refine Grows.drew ?_) | (with_reducible refine Grows.ext ?_ _ _)))⟩
      by_cases h22 : v = 22
      · subst h22
        rw [show simpleP 22 = (pen 2 3, true) by decide]
        go_wp2_with (first | (go_at_call 36; (with_reducible refine (pen36_any _ _ _).mono ?_); rintro e w' ⟨rfl, h3, d3, rfl⟩) | (go_at_call 70; (with_reducible refine (col70_any _ _ _ _).mono ?_); rintro e w' ⟨rfl, h3, d3, rfl⟩))
        go_returns
        exact ⟨rfl, (by repeat' (first | (with_reducible exact Grows.refl _) | (with_reducible refine Grows.alloc ?_ _) | (with_reducible refine Grows.drew ?_) | (with_reducible refine Grows.ext ?_ _ _)))⟩
      by_cases h24 : v = 24
      · subst h24
        rw [show simpleP 24 = (pen 3 0, true) by decide]
        go_wp2_with (first | (go_at_call 36; (with_reducible refine (pen36_any _ _ _).mono ?_); rintro e w' ⟨rfl, h3, d3, rfl⟩) | (go_at_call 70; (with_reducible refine (col70_any _ _ _ _).mono ?_); rintro e w' ⟨rfl, h3, d3, rfl⟩))
        go_returns
        exact ⟨rfl, (by repeat' (first | (with_reducible exact Grows.refl _) | (with_reducible refine Grows.alloc ?_ _) | (with_reducible refine Grows.drew ?_) | (with_reducible refine Grows.ext ?_ _ _)))⟩
      by_cases h39 : v = 39
      · subst h39
        rw [show simpleP 39 = (pen 4 0, true) by decide]
        go_wp2_with (first | (go_at_call 36; (with_reducible refine (pen36_any _ _ _).mono ?_); rintro e w' ⟨rfl, h3, d3, rfl⟩) | (go_at_call 70; (with_reducible refine (col70_any _ _ _ _).mono ?_); rintro e w' ⟨rfl, h3, d3, rfl⟩))
        go_returns
        exact ⟨rfl, (by repeat' (first | (with_reducible exact Grows.refl _) | (with_reducible refine Grows.alloc ?_ _) | (with_reducible refine Grows.drew ?_) | (with_reducible refine Grows.ext ?_ _ _)))⟩
      by_cases h49 : v = 49
      · subst h49
        rw [show simpleP 49 = (pen 5 0, true) by decide]
        go_wp2_with (first | (go_at_call 36; (with_reducible refine (pen36_any _ _ _).mono ?_); rintro e w' ⟨rfl, h3, d3, rfl⟩) | (go_at_call 70; (with_reducible refine (col70_any _ _ _ _).mono ?_); rintro e w' ⟨rfl, h3, d3, rfl⟩))
        go_returns
        exact ⟨rfl, (by repeat' (first | (with_reducible exact Grows.refl _) | (with_reducible refine Grows.alloc ?_ _) | (with_reducible refine Grows.drew ?_) | (with_reducible refine Grows.ext ?_ _ _)))⟩
      by_cases h59 : v = 59
      · subst h59
        rw [show simpleP 59 = (pen 6 0, true) by decide]
        go_wp2_with (first | (go_at_call 36; (with_reducible refine (pen36_any _ _ _).mono ?_); rintro e w' ⟨rfl, h3, d3, rfl⟩) | (go_at_call 70; (with_reducible refine (col70_any _ _ _ _).mono ?_); rintro e w' ⟨rfl, h3, d3, rfl⟩))
        go_returns
        exact ⟨rfl, (by repeat' (first | (with_reducible exact Grows.refl _) | (with_reducible refine Grows.alloc ?_ _) | (with_reducible refine Grows.drew ?_) | (with_reducible refine Grows.ext ?_ _ _)))⟩
      by_cases h30 : v = 30
      · subst h30
        rw [show simpleP 30 = (colored 4 1 0, true) by decide]
        go_wp2_with (first | (go_at_call 36; (with_reducible refine (pen36_any _ _ _).mono ?_); rintro e w' ⟨rfl, h3, d3, rfl⟩) | (go_at_call 70; (with_reducible refine (col70_any _ _ _ _).mono ?_); rintro e w' ⟨rfl, h3, d3, rfl⟩))
        go_returns
        exact ⟨rfl, (by repeat' (first | (with_reducible exact Grows.refl _) | (with_reducible refine Grows.alloc ?_ _) | (with_reducible refine Grows.drew ?_) | (with_reducible refine Grows.ext ?_ _ _)))⟩
      by_cases h40 : v = 40
      · subst h40
        rw [show simpleP 40 = (colored 5 1 0, true) by decide]
        go_wp2_with (first | (go_at_call 36; (with_reducible refine (pen36_any _ _ _).mono ?_); rintro e w' ⟨rfl, h3, d3, rfl⟩) | (go_at_call 70; (with_reducible refine (col70_any _ _ _ _).mono ?_); rintro e w' ⟨rfl, h3, d3, rfl⟩))
        go_returns
        exact ⟨rfl, (by repeat' (first | (with_reducible exact Grows.refl _) | (with_reducible refine Grows.alloc ?_ _) | (with_reducible refine Grows.drew ?_) | (with_reducible refine Grows.ext ?_ _ _)))⟩
      by_cases h90 : v = 90
      · subst h90
        rw [show simpleP 90 = (colored 4 1 8, true) by decide]
        go_wp2_with (first | (go_at_call 36; (with_reducible refine (pen36_any _ _ _).mono ?_); rintro e w' ⟨rfl, h3, d3, rfl⟩) | (go_at_call 70; (with_reducible refine (col70_any _ _ _ _).mono ?_); rintro e w' ⟨rfl, h3, d3, rfl⟩))
        go_returns
        exact ⟨rfl, (by repeat' (first | (with_reducible exact Grows.refl _) | (with_reducible refine Grows.alloc ?_ _) | (with_reducible refine Grows.drew ?_) | (with_reducible refine Grows.ext ?_ _ _)))⟩
      by_cases h100 : v = 100
      · subst h100
        rw [show simpleP 100 = (colored 5 1 8, true) by decide]
        go_wp2_with (first | (go_at_call 36; (with_reducible refine (pen36_any _ _ _).mono ?_); rintro e w' ⟨rfl, h3, d3, rfl⟩) | (go_at_call 70; (with_reducible refine (col70_any _ _ _ _).mono ?_); rintro e w' ⟨rfl, h3, d3, rfl⟩))
        go_returns
        exact ⟨rfl, (by repeat' (first | (with_reducible exact Grows.refl _) | (with_reducible refine Grows.alloc ?_ _) | (with_reducible refine Grows.drew ?_) | (with_reducible refine Grows.ext ?_ _ _)))⟩
      by_cases h31 : v = 31
      · subst h31
        rw [show simpleP 31 = (colored 4 1 1, true) by decide]
        go_wp2_with (first | (go_at_call 36; (with_reducible refine (pen36_any _ _ _).mono ?_); rintro e w' ⟨rfl, h3, d3, rfl⟩) | (go_at_call 70; (with_reducible refine (col70_any _ _ _ _).mono ?_); rintro e w' ⟨rfl, h3, d3, rfl⟩))
        go_returns
        exact ⟨rfl, (by repeat' (first | (with_reducible exact Grows.refl _) | (with_reducible refine Grows.alloc ?_ _) | (with_reducible refine Grows.drew ?_) | (with_reducible refine Grows.ext ?_ _ _)))⟩
      by_cases h41 : v = 41
      · subst h41
        rw [show simpleP 41 = (colored 5 1 1, true) by decide]
        go_wp2_with (first | (go_at_call 36; (with_reducible refine (pen36_any _ _ _).mono ?_); rintro e w' ⟨rfl, h3, d3, rfl⟩) | (go_at_call 70; (with_reducible refine (col70_any _ _ _ _).mono ?_); rintro e w' ⟨rfl, h3, d3, rfl⟩))
        go_returns
        exact ⟨rfl, (by repeat' (first | (with_reducible exact Grows.refl _) | (with_reducible refine Grows.alloc ?_ _) | (with_reducible refine Grows.drew ?_) | (with_reducible refine Grows.ext ?_ _ _)))⟩
      by_cases h91 : v = 91
      · subst h91
        rw [show simpleP 91 = (colored 4 1 9, true) by decide]
        go_wp2_with (first | (go_at_call 36; (with_reducible refine (pen36_any _ _ _).mono ?_); rintro e w' ⟨rfl, h3, d3, rfl⟩) | (go_at_call 70; (with_reducible refine (col70_any _ _ _ _).mono ?_); rintro e w' ⟨rfl, h3, d3, rfl⟩))
        go_returns
        exact ⟨rfl, (by repeat' (first | (with_reducible exact Grows.refl _) | (with_reducible refine Grows.alloc ?_ _) | (with_reducible refine Grows.drew ?_) | (with_reducible refine Grows.ext ?_ _ _)))⟩
      by_cases h101 : v = 101
      · subst h101
        rw [show simpleP 101 = (colored 5 1 9, true) by decide]
        go_wp2_with (first | (go_at_call 36; (with_reducible refine (pen36_any _ _ _).mono ?_); rintro e w' ⟨rfl, h3, d3, rfl⟩) | (go_at_call 70; (with_reducible refine (col70_any _ _ _ _).mono ?_); rintro e w' ⟨rfl, h3, d3, rfl⟩))
        go_returns
        exact ⟨rfl, (by repeat' (first | (with_reducible exact Grows.refl _) | (with_reducible refine Grows.alloc ?_ _) | (with_reducible refine Grows.drew ?_) | (with_reducible refine Grows.ext ?_ _ _)))⟩
      by_cases h32 : v = 32
      · subst h32
        rw [show simpleP 32 = (colored 4 1 2, true) by decide]
        go_wp2_with (first | (go_at_call 36; (with_reducible refine (pen36_any _ _ _).mono ?_); rintro e w' ⟨rfl, h3, d3, rfl⟩) | (go_at_call 70; (with_reducible refine (col70_any _ _ _ _).mono ?_); rintro e w' ⟨rfl, h3, d3, rfl⟩))
        go_returns
        exact ⟨rfl, (by repeat' (first | (with_reducible exact Grows.refl _) | (with_reducible refine Grows.alloc ?_ _) | (with_reducible refine Grows.drew ?_) | (with_reducible refine Grows.ext ?_ _ _)))⟩
      by_cases h42 : v = 42
      · subst h42
        rw [show simpleP 42 = (colored 5 1 2, true) by decide]
        go_wp2_with (first | (go_at_call 36; (with_reducible refine (pen36_any _ _ _).mono ?_); rintro e w' ⟨rfl, h3, d3, rfl⟩) | (go_at_call 70; (with_reducible refine (col70_any _ _ _ _).mono ?_); rintro e w' ⟨rfl, h3, d3, rfl⟩))
        go_returns
        exact ⟨rfl, (by repeat' (first | (with_reducible exact Grows.refl _) | (with_reducible refine Grows.alloc ?_ _) | (with_reducible refine Grows.drew ?_) | (with_reducible refine Grows.ext ?_ _ _)))⟩
      by_cases h92 : v = 92
      · subst h92
        rw [show simpleP 92 = (colored 4 1 10, true) by decide]
        go_wp2_with (first | (go_at_call 36; (with_reducible refine (pen36_any _ _ _).mono ?_); rintro e w' ⟨rfl, h3, d3, rfl⟩) | (go_at_call 70; (with_reducible refine (col70_any _ _ _ _).mono ?_); rintro e w' ⟨rfl, h3, d3, rfl⟩))
        go_returns
        exact ⟨rfl, (by repeat' (first | (with_reducible exact Grows.refl _) | (with_reducible refine Grows.alloc ?_ _) | (with_reducible refine Grows.drew ?_) | (with_reducible refine Grows.ext ?_ _ _)))⟩
      by_cases h102 : v = 102
      · subst h102
        rw [show simpleP 102 = (colored 5 1 10, true) by decide]
        go_wp2_with (first | (go_at_call 36; (with_reducible refine (pen36_any _ _ _).mono ?_); rintro e w' ⟨rfl, h3, d3, rfl⟩) | (go_at_call 70; (with_reducible refine (col70_any _ _ _ _).mono ?_); rintro e w' ⟨rfl, h3, d3, rfl⟩))
        go_returns
        exact ⟨rfl, (by repeat' (first | (with_reducible exact Grows.refl _) | (with_reducible refine Grows.alloc ?_ _) | (with_reducible refine Grows.drew ?_) | (with_reducible refine Grows.ext ?_ _ _)))⟩
      by_cases h33 : v = 33
      · subst h33
        rw [show simpleP 33 = (colored 4 1 3, true) by decide]
        go_wp2_with (first | (go_at_call 36; (with_reducible refine (pen36_any _ _ _).mono ?_); rintro e w' ⟨rfl, h3, d3, rfl⟩) | (go_at_call 70; (with_reducible refine (col70_any _ _ _ _).mono ?_); rintro e w' ⟨rfl, h3, d3, rfl⟩))
        go_returns
        exact ⟨rfl, (by repeat' (first | (with_reducible exact Grows.refl _) | (with_reducible refine Grows.alloc ?_ _) | (with_reducible refine Grows.drew ?_) | (with_reducible refine Grows.ext ?_ _ _)))⟩
      by_cases h43 : v = 43
      · subst h43
        rw [show simpleP 43 = (colored 5 1 3, true) by decide]
        go_wp2_with (first | (go_at_call 36; (with_reducible refine (pen36_any _ _ _).mono ?_); rintro e w' ⟨rfl, h3, d3, rfl⟩) | (go_at_call 70; (with_reducible refine (col70_any _ _ _ _).mono ?_); rintro e w' ⟨rfl, h3, d3, rfl⟩))
        go_returns
        exact ⟨rfl, (by repeat' (first | (with_reducible exact Grows.refl _) | (with_reducible refine Grows.alloc ?_ _) | (with_reducible refine Grows.drew ?_) | (with_reducible refine Grows.ext ?_ _ _)))⟩
      by_cases h93 : v = 93
      · subst h93
        rw [show simpleP 93 = (colored 4 1 11, true) by decide]
        go_wp2_with (first | (go_at_call 36; (with_reducible refine (pen36_any _ _ _).mono ?_); rintro e w' ⟨rfl, h3, d3, rfl⟩) | (go_at_call 70; (with_reducible refine (col70_any _ _ _ _).mono ?_); rintro e w' ⟨rfl, h3, d3, rfl⟩))
        go_returns
        exact ⟨rfl, (by repeat' (first | (with_reducible exact Grows.refl _) | (with_reducible refine Grows.alloc ?_ _) | (with_reducible refine Grows.drew ?_) | (with_reducible refine Grows.ext ?_ _ _)))⟩
      by_cases h103 : v = 103
      · subst h103
        rw [show simpleP 103 = (colored 5 1 11, true) by decide]
        go_wp2_with (first | (go_at_call 36; (with_reducible refine (pen36_any _ _ _).mono ?_); rintro e w' ⟨rfl, h3, d3, rfl⟩) | (go_at_call 70; (with_reducible refine (col70_any _ _ _ _).mono ?_); rintro e w' ⟨rfl, h3, d3, rfl⟩))
        go_returns
        exact ⟨rfl, (by repeat' (first | (with_reducible exact Grows.refl _) | (with_reducible refine Grows.alloc ?_ _) | (with_reducible refine Grows.drew ?_) | (with_reducible refine Grows.ext ?_ _ _)))⟩
      by_cases h34 : v = 34
      · subst h34
        rw [show simpleP 34 = (colored 4 1 4, true) by decide]
        go_wp2_with (first | (go_at_call 36; (with_reducible refine (pen36_any _ _ _).mono ?_); rintro e w' ⟨rfl, h3, d3, rfl⟩) | (go_at_call 70; (with_reducible refine (col70_any _ _ _ _).mono ?_); rintro e w' ⟨rfl, h3, d3, rfl⟩))
        go_returns
        exact ⟨rfl, (by repeat' (first | (with_reducible exact Grows.refl _) | (with_reducible refine Grows.alloc ?_ _) | (with_reducible refine Grows.drew ?_) | (with_reducible refine Grows.ext ?_ _ _)))⟩
      by_cases h44 : v = 44
      · subst h44
        rw [show simpleP 44 = (colored 5 1 4, true) by decide]
        go_wp2_with (first | (go_at_call 36; (with_reducible refine (pen36_any _ _ _).mono ?_); rintro e w' ⟨rfl, h3, d3, rfl⟩) | (go_at_call 70; (with_reducible refine (col70_any _ _ _ _).mono ?_); rintro e w' ⟨rfl, h3, d3, rfl⟩))
        go_returns
        exact ⟨rfl, (by repeat' (first | (with_reducible exact Grows.refl _) | (with_reducible refine Grows.alloc ?_ _) | (with_reducible refine Grows.drew ?_) | (with_reducible refine Grows.ext ?_ _ _)))⟩
      by_cases h94 : v = 94
      · subst h94
        rw [show simpleP 94 = (colored 4 1 12, true) by decide]
        go_wp2_with (first | (go_at_call 36; (with_reducible refine (pen36_any _ _ _).mono ?_); rintro e w' ⟨rfl, h3, d3, rfl⟩) | (go_at_call 70; (with_reducible refine (col70_any _ _ _ _).mono ?_); rintro e w' ⟨rfl, h3, d3, rfl⟩))
        go_returns
        exact ⟨rfl, (by repeat' (first | (with_reducible exact Grows.refl _) | (with_reducible refine Grows.alloc ?_ _) | (with_reducible refine Grows.drew ?_) | (with_reducible refine Grows.ext ?_ _ _)))⟩
      by_cases h104 : v = 104
      · subst h104
        rw [show simpleP 104 = (colored 5 1 12, true) by decide]
        go_wp2_with (first | (go_at_call 36; (with_reducible refine (pen36_any _ _ _).mono ?_); rintro e w' ⟨rfl, h3, d3, rfl⟩) | (go_at_call 70; (with_reducible refine (col70_any _ _ _ _).mono ?_); rintro e w' ⟨rfl, h3, d3, rfl⟩))
        go_returns
        exact ⟨rfl, (by repeat' (first | (with_reducible exact Grows.refl _) | (with_reducible refine Grows.alloc ?_ _) | (with_reducible refine Grows.drew ?_) | (with_reducible refine Grows.ext ?_ _ _)))⟩
      by_cases h35 : v = 35
      · subst h35
        rw [show simpleP 35 = (colored 4 1 5, true) by decide]
        go_wp2_with (first | (go_at_call 36; (with_reducible refine (pen36_any _ _ _).mono ?_); rintro e w' ⟨rfl, h3, d3, rfl⟩) | (go_at_call 70; (with_reducible refine (col70_any _ _ _ _).mono ?_); rintro e w' ⟨rfl, h3, d3, rfl⟩))
        go_returns
        exact ⟨rfl, (by repeat' (first | (with_reducible exact Grows.refl _) | (with_reducible refine Grows.alloc ?_ _) | (with_reducible refine Grows.drew ?_) | (with_reducible refine Grows.ext ?_ _ _)))⟩
      by_cases h45 : v = 45
      · subst h45
        rw [show simpleP 45 = (colored 5 1 5, true) by decide]
        go_wp2_with (first | (go_at_call 36; (with_reducible refine (pen36_any _ _ _).mono ?_); rintro e w' ⟨rfl, h3, d3, rfl⟩) | (go_at_call 70; (with_reducible refine (col70_any _ _ _ _).mono ?_); rintro e w' ⟨rfl, h3, d3, rfl⟩))
        go_returns
        exact ⟨rfl, (by repeat' (first | (with_reducible exact Grows.refl _) | (with_reducible refine Grows.alloc ?_ _) | (with_reducible refine Grows.drew ?_) | (with_reducible refine Grows.ext ?_ _ _)))⟩
      by_cases h95 : v = 95
      · subst h95
        rw [show simpleP 95 = (colored 4 1 13, true) by decide]
        go_wp2_with (first | (go_at_call 36; (with_reducible refine (pen36_any _ _ _).mono ?_); rintro e w' ⟨rfl, h3, d3, rfl⟩) | (go_at_call 70; (with_reducible refine (col70_any _ _ _ _).mono ?_); rintro e w' ⟨rfl, h3, d3, rfl⟩))
        go_returns
        exact ⟨rfl, (by repeat' (first | (with_reducible exact Grows.refl _) | (with_reducible refine Grows.alloc ?_ _) | (with_reducible refine Grows.drew ?_) | (with_reducible refine Grows.ext ?_ _ _)))⟩
      by_cases h105 : v = 105
      · subst h105
        rw [show simpleP 105 = (colored 5 1 13, true) by decide]
        go_wp2_with (first | (go_at_call 36; (with_reducible refine (pen36_any _ _ _).mono ?_); rintro e w' ⟨rfl, h3, d3, rfl⟩) | (go_at_call 70; (with_reducible refine (col70_any _ _ _ _).mono ?_); rintro e w' ⟨rfl, h3, d3, rfl⟩))
        go_returns
        exact ⟨rfl, (by repeat' (first | (with_reducible exact Grows.refl _) | (with_reducible refine Grows.alloc ?_ _) | (with_reducible refine Grows.drew ?_) | (with_reducible refine Grows.ext ?_ _ _)))⟩
      by_cases h36 : v = 36
      · subst h36
        rw [show simpleP 36 = (colored 4 1 6, true) by decide]
        go_wp2_with (first | (go_at_call 36; (with_reducible refine (pen36_any _ _ _).mono ?_); rintro e w' ⟨rfl, h3, d3, rfl⟩) | (go_at_call 70; (with_reducible refine (col70_any _ _ _ _).mono ?_); rintro e w' ⟨rfl, h3, d3, rfl⟩))
        go_returns
        exact ⟨rfl, (by repeat' (first | (with_reducible exact Grows.refl _) | (with_reducible refine Grows.alloc ?_ _) | (with_reducible refine Grows.drew ?_) | (with_reducible refine Grows.ext ?_ _ _)))⟩
      by_cases h46 : v = 46
      · subst h46
        rw [show simpleP 46 = (colored 5 1 6, true) by decide]
        go_wp2_with (first | (go_at_call 36; (with_reducible refine (pen36_any _ _ _).mono ?_); rintro e w' ⟨rfl, h3, d3, rfl⟩) | (go_at_call 70; (with_reducible refine (col70_any _ _ _ _).mono ?_); rintro e w' ⟨rfl, h3, d3, rfl⟩))
        go_returns
        exact ⟨rfl, (by repeat' (first | (with_reducible exact Grows.refl _) | (with_reducible refine Grows.alloc ?_ _) | (with_reducible refine Grows.drew ?_) | (with_reducible refine Grows.ext ?_ _ _)))⟩
      by_cases h96 : v = 96
      · subst h96
        rw [show simpleP 96 = (colored 4 1 14, true) by decide]
        go_wp2_with (first | (go_at_call 36; (with_reducible refine (pen36_any _ _ _).mono ?_); rintro e w' ⟨rfl, h3, d3, rfl⟩) | (go_at_call 70; (with_reducible refine (col70_any _ _ _ _).mono ?_); rintro e w' ⟨rfl, h3, d3, rfl⟩))
        go_returns
        exact ⟨rfl, (by repeat' (first | (with_reducible exact Grows.refl _) | (with_reducible refine Grows.alloc ?_ _) | (with_reducible refine Grows.drew ?_) | (with_reducible refine Grows.ext ?_ _ _)))⟩
      by_cases h106 : v = 106
      · subst h106
        rw [show simpleP 106 = (colored 5 1 14, true) by decide]
        go_wp2_with (first | (go_at_call 36; (with_reducible refine (pen36_any _ _ _).mono ?_); rintro e w' ⟨rfl, h3, d3, rfl⟩) | (go_at_call 70; (with_reducible refine (col70_any _ _ _ _).mono ?_); rintro e w' ⟨rfl, h3, d3, rfl⟩))
        go_returns
        exact ⟨rfl, (by repeat' (first | (with_reducible exact Grows.refl _) | (with_reducible refine Grows.alloc ?_ _) | (with_reducible refine Grows.drew ?_) | (with_reducible refine Grows.ext ?_ _ _)))⟩
      by_cases h37 : v = 37
      · subst h37
        rw [show simpleP 37 = (colored 4 1 7, true) by decide]
        go_wp2_with (first | (go_at_call 36; (with_reducible refine (pen36_any _ _ _).mono ?_); rintro e w' ⟨rfl, h3, d3, rfl⟩) | (go_at_call 70; (with_reducible refine (col70_any _ _ _ _).mono ?_); rintro e w' ⟨rfl, h3, d3, rfl⟩))
        go_returns
        exact ⟨rfl, (by repeat' (first | (with_reducible exact Grows.refl _) | (with_reducible refine Grows.alloc ?_ _) | (with_reducible refine Grows.drew ?_) | (with_reducible refine Grows.ext ?_ _ _)))⟩
      by_cases h47 : v = 47
      · subst h47
        rw [show simpleP 47 = (colored 5 1 7, true) by decide]
        go_wp2_with (first | (go_at_call 36; (with_reducible refine (pen36_any _ _ _).mono ?_); rintro e w' ⟨rfl, h3, d3, rfl⟩) | (go_at_call 70; (with_reducible refine (col70_any _ _ _ _).mono ?_); rintro e w' ⟨rfl, h3, d3, rfl⟩))
        go_returns
        exact ⟨rfl, (by repeat' (first | (with_reducible exact Grows.refl _) | (with_reducible refine Grows.alloc ?_ _) | (with_reducible refine Grows.drew ?_) | (with_reducible refine Grows.ext ?_ _ _)))⟩
      by_cases h97 : v = 97
      · subst h97
        rw [show simpleP 97 = (colored 4 1 15, true) by decide]
        go_wp2_with (first | (go_at_call 36; (with_reducible refine (pen36_any _ _ _).mono ?_); rintro e w' ⟨rfl, h3, d3, rfl⟩) | (go_at_call 70; (with_reducible refine (col70_any _ _ _ _).mono ?_); rintro e w' ⟨rfl, h3, d3, rfl⟩))
        go_returns
        exact ⟨rfl, (by repeat' (first | (with_reducible exact Grows.refl _) | (with_reducible refine Grows.alloc ?_ _) | (with_reducible refine Grows.drew ?_) | (with_reducible refine Grows.ext ?_ _ _)))⟩
      by_cases h107 : v = 107
      · subst h107
        rw [show simpleP 107 = (colored 5 1 15, true) by decide]
        go_wp2_with (first | (go_at_call 36; (with_reducible refine (pen36_any _ _ _).mono ?_); rintro e w' ⟨rfl, h3, d3, rfl⟩) | (go_at_call 70; (with_reducible refine (col70_any _ _ _ _).mono ?_); rintro e w' ⟨rfl, h3, d3, rfl⟩))
        go_returns
        exact ⟨rfl, (by repeat' (first | (with_reducible exact Grows.refl _) | (with_reducible refine Grows.alloc ?_ _) | (with_reducible refine Grows.drew ?_) | (with_reducible refine Grows.ext ?_ _ _)))⟩
      have HZ := Lib.hid (simple_none HN.out (by omega) (by omega) (by omega) (by omega) (by omega))
      have x0 : (v == 0) = false := by simpa using h0
      have x4 : (v == 4) = false := by simpa using h4
      have x6 : (v == 6) = false := by simpa using h6
      have x21 : (v == 21) = false := by simpa using h21
      have x22 : (v == 22) = false := by simpa using h22
      have x24 : (v == 24) = false := by simpa using h24
      have x39 : (v == 39) = false := by simpa using h39
      have x49 : (v == 49) = false := by simpa using h49
      have x59 : (v == 59) = false := by simpa using h59
      clear h0 h4 h6 h21 h22 h24 h39 h49 h59
      have hiv : (v < 30) ∨ (37 < v ∧ v < 40) ∨ (47 < v ∧ v < 90) ∨ (97 < v ∧ v < 100) ∨ (107 < v) := by omega
      clear h30 h40 h90 h100 h31 h41 h91 h101 h32 h42 h92 h102 h33 h43 h93 h103 h34 h44 h94 h104 h35 h45 h95 h105 h36 h46 h96 h106 h37 h47 h97 h107
      rcases hiv with hi | hi | hi | hi | hi
      · have y30 : decide (v ≥ 30) = false := by simp; omega
        have y37 : decide (v ≤ 37) = true := by simp; omega
        have y40 : decide (v ≥ 40) = false := by simp; omega
        have y47 : decide (v ≤ 47) = true := by simp; omega
        have y90 : decide (v ≥ 90) = false := by simp; omega
        have y97 : decide (v ≤ 97) = true := by simp; omega
        have y100 : decide (v ≥ 100) = false := by simp; omega
        have y107 : decide (v ≤ 107) = true := by simp; omega
        go_wp2_with fail
        go_returns
        exact ⟨by rw [HZ.out]; rfl, (by repeat' (first | (with_reducible exact Grows.refl _) | (with_reducible refine Grows.alloc ?_ _) | (with_reducible refine Grows.drew ?_) | (with_reducible refine Grows.ext ?_ _ _)))⟩
      · have y30 : decide (v ≥ 30) = true := by simp; omega
        have y37 : decide (v ≤ 37) = false := by simp; omega
        have y40 : decide (v ≥ 40) = false := by simp; omega
        have y47 : decide (v ≤ 47) = true := by simp; omega
        have y90 : decide (v ≥ 90) = false := by simp; omega
        have y97 : decide (v ≤ 97) = true := by simp; omega
        have y100 : decide (v ≥ 100) = false := by simp; omega
        have y107 : decide (v ≤ 107) = true := by simp; omega
        go_wp2_with fail
        go_returns
        exact ⟨by rw [HZ.out]; rfl, (by repeat' (first | (with_reducible exact Grows.refl _) | (with_reducible refine Grows.alloc ?_ _) | (with_reducible refine Grows.drew ?_) | (with_reducible refine Grows.ext ?_ _ _)))⟩
      · have y30 : decide (v ≥ 30) = true := by simp; omega
        have y37 : decide (v ≤ 37) = false := by simp; omega
        have y40 : decide (v ≥ 40) = true := by simp; omega
        have y47 : decide (v ≤ 47) = false := by simp; omega
        have y90 : decide (v ≥ 90) = false := by simp; omega
        have y97 : decide (v ≤ 97) = true := by simp; omega
        have y100 : decide (v ≥ 100) = false := by simp; omega
        have y107 : decide (v ≤ 107) = true := by simp; omega
        go_wp2_with fail
        go_returns
        exact ⟨by rw [HZ.out]; rfl, (by repeat' (first | (with_reducible exact Grows.refl _) | (with_reducible refine Grows.alloc ?_ _) | (with_reducible refine Grows.drew ?_) | (with_reducible refine Grows.ext ?_ _ _)))⟩
      · have y30 : decide (v ≥ 30) = true := by simp; omega
        have y37 : decide (v ≤ 37) = false := by simp; omega
        have y40 : decide (v ≥ 40) = true := by simp; omega
        have y47 : decide (v ≤ 47) = false := by simp; omega
        have y90 : decide (v ≥ 90) = true := by simp; omega
        have y97 : decide (v ≤ 97) = false := by simp; omega
        have y100 : decide (v ≥ 100) = false := by simp; omega
        have y107 : decide (v ≤ 107) = true := by simp; omega
        go_wp2_with fail
        go_returns
        exact ⟨by rw [HZ.out]; rfl, (by repeat' (first | (with_reducible exact Grows.refl _) | (with_reducible refine Grows.alloc ?_ _) | (with_reducible refine Grows.drew ?_) | (with_reducible refine Grows.ext ?_ _ _)))⟩
      · have y30 : decide (v ≥ 30) = true := by simp; omega
        have y37 : decide (v ≤ 37) = false := by simp; omega
        have y40 : decide (v ≥ 40) = true := by simp; omega
        have y47 : decide (v ≤ 47) = false := by simp; omega
        have y90 : decide (v ≥ 90) = true := by simp; omega
        have y97 : decide (v ≤ 97) = false := by simp; omega
        have y100 : decide (v ≥ 100) = true := by simp; omega
        have y107 : decide (v ≤ 107) = false := by simp; omega
        go_wp2_with fail
        go_returns
        exact ⟨by rw [HZ.out]; rfl, (by repeat' (first | (with_reducible exact Grows.refl _) | (with_reducible refine Grows.alloc ?_ _) | (with_reducible refine Grows.drew ?_) | (with_reducible refine Grows.ext ?_ _ _)))⟩
end Go.Proofs.YtobbphkfdhjmdaaDoor

namespace Go.Proofs.YtobbphkfdhjmdaaDoor
open Go.RowKit

theorem told_at1 {W : World} {n : Nat} (h : W.heap.size = n) (x : Int) : IntsAt (W.alloc (.cells #[.int .i64 x] 3)) (.slice (some ⟨n, 0, none⟩) 1 1) [x] := by
  subst h
  exact told_ints (l := [x]) (heap_alloc_new W _)
theorem m04 : max (0 : Int) 4 = 4 := rfl
theorem whichV_neg {v : Int} (h : v ≠ 38 ∧ v ≠ 48 ∧ v ≠ 58) : whichV v = -1 := by simp [whichV, h.1, h.2.1, h.2.2]
set_option maxRecDepth 100000 in
set_option maxHeartbeats 8000000 in
theorem alone_one (s : Value) (x0 : Int) (hr : -1 ≤ x0 ∧ x0 ≤ 9999) (w : World) (h : IntsAt w s [x0]) : Calls Tryd.prog 72 #[.agg #[s]] w (Ret (.tuple #[.agg (ansC (aloneR [x0])), .bool (aloneR [x0]).2]) w) := by
  obtain ⟨a, cap, rfl, hcap, hin⟩ := h
  obtain ⟨b, off, rfl, hb, hc⟩ := hin (by simp)
  have c0 := hc 0 (by simp)
  simp only [List.getElem?_cons_zero, Option.getD_some, Nat.add_zero] at c0
  clear hin hc
  by_cases hx : 0 < x0
  · have hA : aloneR [x0] = simpleP x0 := by simp [aloneR, show max 0 x0 = x0 by omega]
    rw [hA]
    have HS := Lib.hid fun W => simple91 x0 (by omega) (by omega) W
    generalize simpleP x0 = q at HS ⊢
    clear hA
    obtain ⟨⟨qn, qm, qk, qc⟩, yes⟩ := q
    cases yes
    all_goals simp only [ansC, if_true, Bool.false_eq_true, if_false] at HS ⊢
    all_goals go_enter Tryd.func72, Tryd.ntmps72
    all_goals go_wp2_with (go_at_call 91; (with_reducible refine (HS.out _).mono ?_); rintro e w' ⟨rfl, h5, d5, rfl⟩)
    all_goals go_returns
    all_goals exact ⟨rfl, (by repeat' (first | (with_reducible exact Grows.refl _) | (with_reducible refine Grows.alloc ?_ _) | (with_reducible refine Grows.drew ?_) | (with_reducible refine Grows.ext ?_ _ _)))⟩
  · have hA : aloneR [x0] = simpleP 0 := by simp [aloneR, show max 0 x0 = 0 by omega]
    rw [hA]
    have HS := Lib.hid fun W => simple91 0 (by omega) (by omega) W
    generalize simpleP 0 = q at HS ⊢
    clear hA
    obtain ⟨⟨qn, qm, qk, qc⟩, yes⟩ := q
    cases yes
    all_goals simp only [ansC, if_true, Bool.false_eq_true, if_false] at HS ⊢
    all_goals go_enter Tryd.func72, Tryd.ntmps72
    all_goals go_wp2_with (go_at_call 91; (with_reducible refine (HS.out _).mono ?_); rintro e w' ⟨rfl, h5, d5, rfl⟩)
    all_goals go_returns
    all_goals exact ⟨rfl, (by repeat' (first | (with_reducible exact Grows.refl _) | (with_reducible refine Grows.alloc ?_ _) | (with_reducible refine Grows.drew ?_) | (with_reducible refine Grows.ext ?_ _ _)))⟩
set_option maxRecDepth 100000 in
set_option maxHeartbeats 8000000 in
theorem alone_two (s : Value) (x0 x1 : Int) (hr : -1 ≤ x0 ∧ x0 ≤ 9999) (hr1 : -1 ≤ x1 ∧ x1 ≤ 9999) (w : World) (h : IntsAt w s [x0, x1]) : Calls Tryd.prog 72 #[.agg #[s]] w (Ret (.tuple #[.agg (ansC (aloneR [x0, x1])), .bool (aloneR [x0, x1]).2]) w) := by
  obtain ⟨a, cap, rfl, hcap, hin⟩ := h
  obtain ⟨b, off, rfl, hb, hc⟩ := hin (by simp)
  have c0 := hc 0 (by simp)
  have c1 := hc 1 (by simp)
  simp only [List.getElem?_cons_zero, List.getElem?_cons_succ, Option.getD_some, Nat.add_zero] at c0 c1
  clear hin hc
  by_cases h4 : x0 = 4
  · subst h4
    have hw4 : whichV 4 = -1 := by decide
    by_cases hx : 0 ≤ x1 ∧ x1 ≤ 5
    · have e1 : decide (x1 ≥ 0) = true := by simpa using hx.1
      have e2 : decide (x1 ≤ 5) = true := by simpa using hx.2
      have HA := Lib.hid (show aloneR [4, x1] = (pen 3 x1, true) by simp [aloneR, m04, hx.1, hx.2])
      go_enter Tryd.func72, Tryd.ntmps72
      go_wp2_with (first | (go_at_call 68; (with_reducible refine (which_any _ _).mono ?_); rintro e w' ⟨rfl, h2, d2, rfl⟩) | (go_at_call 36; (with_reducible refine (pen36_any _ _ _).mono ?_); rintro e w' ⟨rfl, h3, d3, rfl⟩) | (go_at_call 70; (with_reducible refine (col70_any _ _ _ _).mono ?_); rintro e w' ⟨rfl, h4, d4, rfl⟩))
      go_returns
      exact ⟨by rw [HA.out]; rfl, (by repeat' (first | (with_reducible exact Grows.refl _) | (with_reducible refine Grows.alloc ?_ _) | (with_reducible refine Grows.drew ?_) | (with_reducible refine Grows.ext ?_ _ _)))⟩
    · have HA := Lib.hid (show aloneR [4, x1] = (noPen, false) by
        have : ¬ (0 ≤ x1 ∧ x1 ≤ 5) := hx
        simp [aloneR, m04, hw4, this])
      by_cases hx0 : 0 ≤ x1
      · have e1 : decide (x1 ≥ 0) = true := by simpa using hx0
        have e2 : decide (x1 ≤ 5) = false := by simp; omega
        go_enter Tryd.func72, Tryd.ntmps72
        go_wp2_with (first | (go_at_call 68; (with_reducible refine (which_any _ _).mono ?_); rintro e w' ⟨rfl, h2, d2, rfl⟩) | (go_at_call 36; (with_reducible refine (pen36_any _ _ _).mono ?_); rintro e w' ⟨rfl, h3, d3, rfl⟩) | (go_at_call 70; (with_reducible refine (col70_any _ _ _ _).mono ?_); rintro e w' ⟨rfl, h4, d4, rfl⟩))
        refine wp_region_grow (by kernel_rfl) (by kernel_rfl) ?_
        repeat (first | go_big_quiet_step ((fail)) | quiet_step ((fail)))
        refine wpQuiet_nil ?_
        rintro _ ⟨g136, rfl⟩
        go_wp2_with fail
        refine wp_region_grow (by kernel_rfl) (by kernel_rfl) ?_
        repeat (first | go_big_quiet_step ((fail)) | quiet_step ((fail)))
        refine wpQuiet_nil ?_
        rintro _ ⟨g137, rfl⟩
        go_wp2_with fail
        go_returns
        exact ⟨by rw [HA.out]; rfl, (by repeat' (first | (with_reducible exact Grows.refl _) | (with_reducible refine Grows.alloc ?_ _) | (with_reducible refine Grows.drew ?_) | (with_reducible refine Grows.ext ?_ _ _)))⟩
      · have e1 : decide (x1 ≥ 0) = false := by simp; omega
        go_enter Tryd.func72, Tryd.ntmps72
        go_wp2_with (first | (go_at_call 68; (with_reducible refine (which_any _ _).mono ?_); rintro e w' ⟨rfl, h2, d2, rfl⟩) | (go_at_call 36; (with_reducible refine (pen36_any _ _ _).mono ?_); rintro e w' ⟨rfl, h3, d3, rfl⟩) | (go_at_call 70; (with_reducible refine (col70_any _ _ _ _).mono ?_); rintro e w' ⟨rfl, h4, d4, rfl⟩))
        refine wp_region_grow (by kernel_rfl) (by kernel_rfl) ?_
        repeat (first | go_big_quiet_step ((fail)) | quiet_step ((fail)))
        refine wpQuiet_nil ?_
        rintro _ ⟨g138, rfl⟩
        go_wp2_with fail
        refine wp_region_grow (by kernel_rfl) (by kernel_rfl) ?_
        repeat (first | go_big_quiet_step ((fail)) | quiet_step ((fail)))
        refine wpQuiet_nil ?_
        rintro _ ⟨g139, rfl⟩
        go_wp2_with fail
        go_returns
        exact ⟨by rw [HA.out]; rfl, (by repeat' (first | (with_reducible exact Grows.refl _) | (with_reducible refine Grows.alloc ?_ _) | (with_reducible refine Grows.drew ?_) | (with_reducible refine Grows.ext ?_ _ _)))⟩
  · have HA := Lib.hid (show aloneR [x0, x1] = (noPen, false) by simp [aloneR, show max 0 x0 ≠ 4 by omega])
    by_cases hx : 0 < x0
    · have e4 : (x0 == 4) = false := by simpa using h4
      by_cases hw : 0 ≤ whichV x0
      · have e5 : decide (whichV x0 ≥ 0) = true := by simpa using hw
        go_enter Tryd.func72, Tryd.ntmps72
        go_wp2_with (first | (go_at_call 68; (with_reducible refine (which_any _ _).mono ?_); rintro e w' ⟨rfl, h2, d2, rfl⟩) | (go_at_call 36; (with_reducible refine (pen36_any _ _ _).mono ?_); rintro e w' ⟨rfl, h3, d3, rfl⟩) | (go_at_call 70; (with_reducible refine (col70_any _ _ _ _).mono ?_); rintro e w' ⟨rfl, h4, d4, rfl⟩))
        refine wp_region_grow (by kernel_rfl) (by kernel_rfl) ?_
        repeat (first | go_big_quiet_step ((fail)) | quiet_step ((fail)))
        refine wpQuiet_nil ?_
        rintro _ ⟨g140, rfl⟩
        go_wp2_with fail
        refine wp_region_grow (by kernel_rfl) (by kernel_rfl) ?_
        repeat (first | go_big_quiet_step ((fail)) | quiet_step ((fail)))
        refine wpQuiet_nil ?_
        rintro _ ⟨g141, rfl⟩
        go_wp2_with fail
        go_returns
        exact ⟨by rw [HA.out]; rfl, (by repeat' (first | (with_reducible exact Grows.refl _) | (with_reducible refine Grows.alloc ?_ _) | (with_reducible refine Grows.drew ?_) | (with_reducible refine Grows.ext ?_ _ _)))⟩
      · have e5 : decide (whichV x0 ≥ 0) = false := by simpa using hw
        go_enter Tryd.func72, Tryd.ntmps72
        go_wp2_with (first | (go_at_call 68; (with_reducible refine (which_any _ _).mono ?_); rintro e w' ⟨rfl, h2, d2, rfl⟩) | (go_at_call 36; (with_reducible refine (pen36_any _ _ _).mono ?_); rintro e w' ⟨rfl, h3, d3, rfl⟩) | (go_at_call 70; (with_reducible refine (col70_any _ _ _ _).mono ?_); rintro e w' ⟨rfl, h4, d4, rfl⟩))
        refine wp_region_grow (by kernel_rfl) (by kernel_rfl) ?_
        repeat (first | go_big_quiet_step ((fail)) | quiet_step ((fail)))
        refine wpQuiet_nil ?_
        rintro _ ⟨g142, rfl⟩
        go_wp2_with fail
        refine wp_region_grow (by kernel_rfl) (by kernel_rfl) ?_
        repeat (first | go_big_quiet_step ((fail)) | quiet_step ((fail)))
        refine wpQuiet_nil ?_
        rintro _ ⟨g143, rfl⟩
        go_wp2_with fail
        go_returns
        exact ⟨by rw [HA.out]; rfl, (by repeat' (first | (with_reducible exact Grows.refl _) | (with_reducible refine Grows.alloc ?_ _) | (with_reducible refine Grows.drew ?_) | (with_reducible refine Grows.ext ?_ _ _)))⟩
    · have hw0 : whichV 0 = -1 := by decide
      go_enter Tryd.func72, Tryd.ntmps72
      go_wp2_with (first | (go_at_call 68; (with_reducible refine (which_any _ _).mono ?_); rintro e w' ⟨rfl, h2, d2, rfl⟩) | (go_at_call 36; (with_reducible refine (pen36_any _ _ _).mono ?_); rintro e w' ⟨rfl, h3, d3, rfl⟩) | (go_at_call 70; (with_reducible refine (col70_any _ _ _ _).mono ?_); rintro e w' ⟨rfl, h4, d4, rfl⟩))
      refine wp_region_grow (by kernel_rfl) (by kernel_rfl) ?_
      repeat (first | go_big_quiet_step ((fail)) | quiet_step ((fail)))
      refine wpQuiet_nil ?_
      rintro _ ⟨g144, rfl⟩
      go_wp2_with fail
      refine wp_region_grow (by kernel_rfl) (by kernel_rfl) ?_
      repeat (first | go_big_quiet_step ((fail)) | quiet_step ((fail)))
      refine wpQuiet_nil ?_
      rintro _ ⟨g145, rfl⟩
      go_wp2_with fail
      go_returns
      exact ⟨by rw [HA.out]; rfl, (by repeat' (first | (with_reducible exact Grows.refl _) | (with_reducible refine Grows.alloc ?_ _) | (with_reducible refine Grows.drew ?_) | (with_reducible refine Grows.ext ?_ _ _)))⟩
set_option maxRecDepth 100000 in
set_option maxHeartbeats 8000000 in
theorem alone_four (s : Value) (x0 x1 x2 x3 : Int) (hr0 : -1 ≤ x0 ∧ x0 ≤ 9999) (_hr1 : -1 ≤ x1 ∧ x1 ≤ 9999) (_hr2 : -1 ≤ x2 ∧ x2 ≤ 9999) (_hr3 : -1 ≤ x3 ∧ x3 ≤ 9999) (w : World) (h : IntsAt w s [x0, x1, x2, x3]) : Calls Tryd.prog 72 #[.agg #[s]] w (Ret (.tuple #[.agg (ansC (aloneR [x0, x1, x2, x3])), .bool (aloneR [x0, x1, x2, x3]).2]) w) := by
  obtain ⟨a, cap, rfl, hcap, hin⟩ := h
  obtain ⟨b, off, rfl, hb, hc⟩ := hin (by simp)
  have c0 := hc 0 (by simp)
  have c1 := hc 1 (by simp)
  have c2 := hc 2 (by simp)
  have c3 := hc 3 (by simp)
  simp only [List.getElem?_cons_zero, List.getElem?_cons_succ, Option.getD_some, Nat.add_zero] at c0 c1 c2 c3
  clear hin hc
  have HA := Lib.hid (show aloneR [x0, x1, x2, x3] = (noPen, false) by simp [aloneR])
  by_cases hx : 0 < x0
  · by_cases h4 : x0 = 4
    · subst h4
      have hw4 : whichV 4 = -1 := by decide
      go_enter Tryd.func72, Tryd.ntmps72
      go_wp2_with (first | (go_at_call 68; (with_reducible refine (which_any _ _).mono ?_); rintro e w' ⟨rfl, h2, d2, rfl⟩) | (go_at_call 36; (with_reducible refine (pen36_any _ _ _).mono ?_); rintro e w' ⟨rfl, h3, d3, rfl⟩) | (go_at_call 70; (with_reducible refine (col70_any _ _ _ _).mono ?_); rintro e w' ⟨rfl, h4, d4, rfl⟩))
      refine wp_region_grow (by kernel_rfl) (by kernel_rfl) ?_
      repeat (first | go_big_quiet_step ((fail)) | quiet_step ((fail)))
      refine wpQuiet_nil ?_
      rintro _ ⟨g146, rfl⟩
      go_wp2_with fail
      refine wp_region_grow (by kernel_rfl) (by kernel_rfl) ?_
      repeat (first | go_big_quiet_step ((fail)) | quiet_step ((fail)))
      refine wpQuiet_nil ?_
      rintro _ ⟨g147, rfl⟩
      go_wp2_with fail
      go_returns
      exact ⟨by rw [HA.out]; rfl, (by repeat' (first | (with_reducible exact Grows.refl _) | (with_reducible refine Grows.alloc ?_ _) | (with_reducible refine Grows.drew ?_) | (with_reducible refine Grows.ext ?_ _ _)))⟩
    · have e4 : (x0 == 4) = false := by simpa using h4
      by_cases hw : 0 ≤ whichV x0
      · have e5 : decide (whichV x0 ≥ 0) = true := by simpa using hw
        go_enter Tryd.func72, Tryd.ntmps72
        go_wp2_with (first | (go_at_call 68; (with_reducible refine (which_any _ _).mono ?_); rintro e w' ⟨rfl, h2, d2, rfl⟩) | (go_at_call 36; (with_reducible refine (pen36_any _ _ _).mono ?_); rintro e w' ⟨rfl, h3, d3, rfl⟩) | (go_at_call 70; (with_reducible refine (col70_any _ _ _ _).mono ?_); rintro e w' ⟨rfl, h4, d4, rfl⟩))
        refine wp_region_grow (by kernel_rfl) (by kernel_rfl) ?_
        repeat (first | go_big_quiet_step ((fail)) | quiet_step ((fail)))
        refine wpQuiet_nil ?_
        rintro _ ⟨g148, rfl⟩
        go_wp2_with fail
        refine wp_region_grow (by kernel_rfl) (by kernel_rfl) ?_
        repeat (first | go_big_quiet_step ((fail)) | quiet_step ((fail)))
        refine wpQuiet_nil ?_
        rintro _ ⟨g149, rfl⟩
        go_wp2_with fail
        go_returns
        exact ⟨by rw [HA.out]; rfl, (by repeat' (first | (with_reducible exact Grows.refl _) | (with_reducible refine Grows.alloc ?_ _) | (with_reducible refine Grows.drew ?_) | (with_reducible refine Grows.ext ?_ _ _)))⟩
      · have e5 : decide (whichV x0 ≥ 0) = false := by simpa using hw
        go_enter Tryd.func72, Tryd.ntmps72
        go_wp2_with (first | (go_at_call 68; (with_reducible refine (which_any _ _).mono ?_); rintro e w' ⟨rfl, h2, d2, rfl⟩) | (go_at_call 36; (with_reducible refine (pen36_any _ _ _).mono ?_); rintro e w' ⟨rfl, h3, d3, rfl⟩) | (go_at_call 70; (with_reducible refine (col70_any _ _ _ _).mono ?_); rintro e w' ⟨rfl, h4, d4, rfl⟩))
        refine wp_region_grow (by kernel_rfl) (by kernel_rfl) ?_
        repeat (first | go_big_quiet_step ((fail)) | quiet_step ((fail)))
        refine wpQuiet_nil ?_
        rintro _ ⟨g150, rfl⟩
        go_wp2_with fail
        refine wp_region_grow (by kernel_rfl) (by kernel_rfl) ?_
        repeat (first | go_big_quiet_step ((fail)) | quiet_step ((fail)))
        refine wpQuiet_nil ?_
        rintro _ ⟨g151, rfl⟩
        go_wp2_with fail
        go_returns
        exact ⟨by rw [HA.out]; rfl, (by repeat' (first | (with_reducible exact Grows.refl _) | (with_reducible refine Grows.alloc ?_ _) | (with_reducible refine Grows.drew ?_) | (with_reducible refine Grows.ext ?_ _ _)))⟩
  · have hw0 : whichV 0 = -1 := by decide
    go_enter Tryd.func72, Tryd.ntmps72
    go_wp2_with (first | (go_at_call 68; (with_reducible refine (which_any _ _).mono ?_); rintro e w' ⟨rfl, h2, d2, rfl⟩) | (go_at_call 36; (with_reducible refine (pen36_any _ _ _).mono ?_); rintro e w' ⟨rfl, h3, d3, rfl⟩) | (go_at_call 70; (with_reducible refine (col70_any _ _ _ _).mono ?_); rintro e w' ⟨rfl, h4, d4, rfl⟩))
    refine wp_region_grow (by kernel_rfl) (by kernel_rfl) ?_
    repeat (first | go_big_quiet_step ((fail)) | quiet_step ((fail)))
    refine wpQuiet_nil ?_
    rintro _ ⟨g152, rfl⟩
    go_wp2_with fail
    refine wp_region_grow (by kernel_rfl) (by kernel_rfl) ?_
    repeat (first | go_big_quiet_step ((fail)) | quiet_step ((fail)))
    refine wpQuiet_nil ?_
    rintro _ ⟨g153, rfl⟩
    go_wp2_with fail
    go_returns
    exact ⟨by rw [HA.out]; rfl, (by repeat' (first | (with_reducible exact Grows.refl _) | (with_reducible refine Grows.alloc ?_ _) | (with_reducible refine Grows.drew ?_) | (with_reducible refine Grows.ext ?_ _ _)))⟩
set_option maxRecDepth 100000 in
set_option maxHeartbeats 8000000 in
theorem alone_three (s : Value) (x0 x1 x2 : Int) (hr0 : -1 ≤ x0 ∧ x0 ≤ 9999) (hr1 : -1 ≤ x1 ∧ x1 ≤ 9999) (_hr2 : -1 ≤ x2 ∧ x2 ≤ 9999) (w : World) (h : IntsAt w s [x0, x1, x2]) : Calls Tryd.prog 72 #[.agg #[s]] w (Ret (.tuple #[.agg (ansC (aloneR [x0, x1, x2])), .bool (aloneR [x0, x1, x2]).2]) w) := by
  obtain ⟨a, cap, rfl, hcap, hin⟩ := h
  obtain ⟨b, off, rfl, hb, hc⟩ := hin (by simp)
  have c0 := hc 0 (by simp)
  have c1 := hc 1 (by simp)
  have c2 := hc 2 (by simp)
  simp only [List.getElem?_cons_zero, List.getElem?_cons_succ, Option.getD_some, Nat.add_zero] at c0 c1 c2
  clear hin hc
  by_cases hx : 0 < x0
  · have hm : max 0 x0 = x0 := by omega
    by_cases h4 : x0 = 4
    · subst h4
      have hw4 : whichV 4 = -1 := by decide
      have HA := Lib.hid (show aloneR [4, x1, x2] = (noPen, false) by simp [aloneR, m04, hw4])
      clear hm
      go_enter Tryd.func72, Tryd.ntmps72
      go_wp2_with (first | (go_at_call 68; (with_reducible refine (which_any _ _).mono ?_); rintro e w' ⟨rfl, h2, d2, rfl⟩) | (go_at_call 36; (with_reducible refine (pen36_any _ _ _).mono ?_); rintro e w' ⟨rfl, h3, d3, rfl⟩) | (go_at_call 70; (with_reducible refine (col70_any _ _ _ _).mono ?_); rintro e w' ⟨rfl, h4, d4, rfl⟩))
      refine wp_region_grow (by kernel_rfl) (by kernel_rfl) ?_
      repeat (first | go_big_quiet_step ((fail)) | quiet_step ((fail)))
      refine wpQuiet_nil ?_
      rintro _ ⟨g156, rfl⟩
      go_wp2_with fail
      refine wp_region_grow (by kernel_rfl) (by kernel_rfl) ?_
      repeat (first | go_big_quiet_step ((fail)) | quiet_step ((fail)))
      refine wpQuiet_nil ?_
      rintro _ ⟨g157, rfl⟩
      go_wp2_with fail
      go_returns
      exact ⟨by rw [HA.out]; rfl, (by repeat' (first | (with_reducible exact Grows.refl _) | (with_reducible refine Grows.alloc ?_ _) | (with_reducible refine Grows.drew ?_) | (with_reducible refine Grows.ext ?_ _ _)))⟩
    · have e4 : (x0 == 4) = false := by simpa using h4
      by_cases hw : 0 ≤ whichV x0
      · have e5 : decide (whichV x0 ≥ 0) = true := by simpa using hw
        by_cases h5 : x1 = 5
        · subst h5
          have HWI := Lib.hid fun v W (h : IntsAt W v [x2]) => rwithin_any v [x2] (by simp) W h
          cases hwi : withinL [x2] with
          | true =>
            rw [hwi] at HWI
            have HA := Lib.hid (show aloneR [x0, 5, x2] = (colored (whichV x0) 1 x2, true) by simp [aloneR, hm, hw, hwi])
            clear hm hwi
            go_enter Tryd.func72, Tryd.ntmps72
            go_wp2_with (first | (go_at_call 68; (with_reducible refine (which_any _ _).mono ?_); rintro e w' ⟨rfl, h2, d2, rfl⟩) | (go_at_call 36; (with_reducible refine (pen36_any _ _ _).mono ?_); rintro e w' ⟨rfl, h3, d3, rfl⟩) | (go_at_call 69; (with_reducible refine (HWI.out _ _ ?hi69).mono ?hm69); (case hi69 => exact told_at1 (by simp) x2); rintro e w' ⟨rfl, rfl⟩) | (go_at_call 70; (with_reducible refine (col70_any _ _ _ _).mono ?_); rintro e w' ⟨rfl, h4, d4, rfl⟩))
            go_returns
            exact ⟨by rw [HA.out]; rfl, (by repeat' (first | (with_reducible exact Grows.refl _) | (with_reducible refine Grows.alloc ?_ _) | (with_reducible refine Grows.drew ?_) | (with_reducible refine Grows.ext ?_ _ _)))⟩
          | false =>
            rw [hwi] at HWI
            have HA := Lib.hid (show aloneR [x0, 5, x2] = (noPen, false) by simp [aloneR, hwi])
            clear hm hwi
            go_enter Tryd.func72, Tryd.ntmps72
            go_wp2_with (first | (go_at_call 68; (with_reducible refine (which_any _ _).mono ?_); rintro e w' ⟨rfl, h2, d2, rfl⟩) | (go_at_call 36; (with_reducible refine (pen36_any _ _ _).mono ?_); rintro e w' ⟨rfl, h3, d3, rfl⟩) | (go_at_call 69; (with_reducible refine (HWI.out _ _ ?hi69b).mono ?hm69b); (case hi69b => exact told_at1 (by simp) x2); rintro e w' ⟨rfl, rfl⟩) | (go_at_call 70; (with_reducible refine (col70_any _ _ _ _).mono ?_); rintro e w' ⟨rfl, h4, d4, rfl⟩))
            refine wp_region_grow (by kernel_rfl) (by kernel_rfl) ?_
            repeat (first | go_big_quiet_step ((fail)) | quiet_step ((fail)))
            refine wpQuiet_nil ?_
            rintro _ ⟨g154, rfl⟩
            go_wp2_with fail
            refine wp_region_grow (by kernel_rfl) (by kernel_rfl) ?_
            repeat (first | go_big_quiet_step ((fail)) | quiet_step ((fail)))
            refine wpQuiet_nil ?_
            rintro _ ⟨g155, rfl⟩
            go_wp2_with fail
            go_returns
            exact ⟨by rw [HA.out]; rfl, (by repeat' (first | (with_reducible exact Grows.refl _) | (with_reducible refine Grows.alloc ?_ _) | (with_reducible refine Grows.drew ?_) | (with_reducible refine Grows.ext ?_ _ _)))⟩
        · have e6 : (x1 == 5) = false := by simpa using h5
          have HA := Lib.hid (show aloneR [x0, x1, x2] = (noPen, false) by simp [aloneR, h5])
          clear hm
          go_enter Tryd.func72, Tryd.ntmps72
          go_wp2_with (first | (go_at_call 68; (with_reducible refine (which_any _ _).mono ?_); rintro e w' ⟨rfl, h2, d2, rfl⟩) | (go_at_call 36; (with_reducible refine (pen36_any _ _ _).mono ?_); rintro e w' ⟨rfl, h3, d3, rfl⟩) | (go_at_call 70; (with_reducible refine (col70_any _ _ _ _).mono ?_); rintro e w' ⟨rfl, h4, d4, rfl⟩))
          refine wp_region_grow (by kernel_rfl) (by kernel_rfl) ?_
          repeat (first | go_big_quiet_step ((fail)) | quiet_step ((fail)))
          refine wpQuiet_nil ?_
          rintro _ ⟨g162, rfl⟩
          go_wp2_with fail
          refine wp_region_grow (by kernel_rfl) (by kernel_rfl) ?_
          repeat (first | go_big_quiet_step ((fail)) | quiet_step ((fail)))
          refine wpQuiet_nil ?_
          rintro _ ⟨g163, rfl⟩
          go_wp2_with fail
          go_returns
          exact ⟨by rw [HA.out]; rfl, (by repeat' (first | (with_reducible exact Grows.refl _) | (with_reducible refine Grows.alloc ?_ _) | (with_reducible refine Grows.drew ?_) | (with_reducible refine Grows.ext ?_ _ _)))⟩
      · have e5 : decide (whichV x0 ≥ 0) = false := by simpa using hw
        have HA := Lib.hid (show aloneR [x0, x1, x2] = (noPen, false) by simp [aloneR, hm, hw])
        clear hm
        go_enter Tryd.func72, Tryd.ntmps72
        go_wp2_with (first | (go_at_call 68; (with_reducible refine (which_any _ _).mono ?_); rintro e w' ⟨rfl, h2, d2, rfl⟩) | (go_at_call 36; (with_reducible refine (pen36_any _ _ _).mono ?_); rintro e w' ⟨rfl, h3, d3, rfl⟩) | (go_at_call 70; (with_reducible refine (col70_any _ _ _ _).mono ?_); rintro e w' ⟨rfl, h4, d4, rfl⟩))
        refine wp_region_grow (by kernel_rfl) (by kernel_rfl) ?_
        repeat (first | go_big_quiet_step ((fail)) | quiet_step ((fail)))
        refine wpQuiet_nil ?_
        rintro _ ⟨g158, rfl⟩
        go_wp2_with fail
        refine wp_region_grow (by kernel_rfl) (by kernel_rfl) ?_
        repeat (first | go_big_quiet_step ((fail)) | quiet_step ((fail)))
        refine wpQuiet_nil ?_
        rintro _ ⟨g159, rfl⟩
        go_wp2_with fail
        go_returns
        exact ⟨by rw [HA.out]; rfl, (by repeat' (first | (with_reducible exact Grows.refl _) | (with_reducible refine Grows.alloc ?_ _) | (with_reducible refine Grows.drew ?_) | (with_reducible refine Grows.ext ?_ _ _)))⟩
  · have hw0 : whichV 0 = -1 := by decide
    have HA := Lib.hid (show aloneR [x0, x1, x2] = (noPen, false) by simp [aloneR, show max 0 x0 = 0 by omega, hw0])
    go_enter Tryd.func72, Tryd.ntmps72
    go_wp2_with (first | (go_at_call 68; (with_reducible refine (which_any _ _).mono ?_); rintro e w' ⟨rfl, h2, d2, rfl⟩) | (go_at_call 36; (with_reducible refine (pen36_any _ _ _).mono ?_); rintro e w' ⟨rfl, h3, d3, rfl⟩) | (go_at_call 70; (with_reducible refine (col70_any _ _ _ _).mono ?_); rintro e w' ⟨rfl, h4, d4, rfl⟩))
    refine wp_region_grow (by kernel_rfl) (by kernel_rfl) ?_
    repeat (first | go_big_quiet_step ((fail)) | quiet_step ((fail)))
    refine wpQuiet_nil ?_
    rintro _ ⟨g160, rfl⟩
    go_wp2_with fail
    refine wp_region_grow (by kernel_rfl) (by kernel_rfl) ?_
    repeat (first | go_big_quiet_step ((fail)) | quiet_step ((fail)))
    refine wpQuiet_nil ?_
    rintro _ ⟨g161, rfl⟩
    go_wp2_with fail
    go_returns
    exact ⟨by rw [HA.out]; rfl, (by repeat' (first | (with_reducible exact Grows.refl _) | (with_reducible refine Grows.alloc ?_ _) | (with_reducible refine Grows.drew ?_) | (with_reducible refine Grows.ext ?_ _ _)))⟩
end Go.Proofs.YtobbphkfdhjmdaaDoor

namespace Go.Proofs.YtobbphkfdhjmdaaDoor
open Go.RowKit

theorem told_at3 {W : World} {n : Nat} (h : W.heap.size = n) (x y z : Int) : IntsAt (W.alloc (.cells #[.int .i64 x, .int .i64 y, .int .i64 z] 3)) (.slice (some ⟨n, 0, none⟩) 3 3) [x, y, z] := by
  subst h
  exact told_ints (l := [x, y, z]) (heap_alloc_new W _)
set_option maxRecDepth 100000 in
set_option maxHeartbeats 8000000 in
theorem alone_five2 (_a : Option Addr) (cap b off : Nat) (x0 x2 x3 x4 : Int) (hx : 0 < x0) (_hx9 : x0 ≤ 9999) (h4 : x0 ≠ 4) (hw : 0 ≤ whichV x0) (w : World) (hb : b < w.heap.size) (_hcap : 5 ≤ cap) (c0 : w.cell? ⟨b, off, none⟩ = some (.int .i64 x0)) (c1 : w.cell? ⟨b, off + 1, none⟩ = some (.int .i64 2)) (c2 : w.cell? ⟨b, off + 2, none⟩ = some (.int .i64 x2)) (c3 : w.cell? ⟨b, off + 3, none⟩ = some (.int .i64 x3)) (c4 : w.cell? ⟨b, off + 4, none⟩ = some (.int .i64 x4)) (hwi : withinL [x2, x3, x4] = true) :
    Calls Tryd.prog 72 #[.agg #[.slice (some ⟨b, off, none⟩) 5 cap]] w (Ret (.tuple #[.agg (ansC (rgbP (whichV x0) x2 x3 x4, true)), .bool true]) w) := by
  have HWI := Lib.hid fun v W (h : IntsAt W v [x2, x3, x4]) => rwithin_any v [x2, x3, x4] (by simp) W h
  rw [hwi] at HWI
  have e4 : (x0 == 4) = false := by simpa using h4
  have e5 : decide (whichV x0 ≥ 0) = true := by simpa using hw
  have e6 : (0 : Int) < x0 := hx
  have hrg : (0 ≤ x2 ∧ x2 ≤ 255) ∧ (0 ≤ x3 ∧ x3 ≤ 255) ∧ (0 ≤ x4 ∧ x4 ≤ 255) := by simpa [withinL] using hwi
  obtain ⟨r2, r3, r4⟩ := hrg
  have HRG := Lib.hid fun W => rgb71_any (whichV x0) x2 x3 x4 r2 r3 r4 W
  clear hwi h4 r2 r3 r4
  go_enter Tryd.func72, Tryd.ntmps72
  go_wp2_with (first | (go_at_call 68; (with_reducible refine (which_any _ _).mono ?_); rintro e w' ⟨rfl, h2, d2, rfl⟩))
  refine wp_region_held_drew (S := fun w' => w'.cell? ⟨b, off + 1, none⟩ = some (.int .i64 2) ∧ w'.cell? ⟨b, off + 2, none⟩ = some (.int .i64 x2) ∧ w'.cell? ⟨b, off + 3, none⟩ = some (.int .i64 x3) ∧ w'.cell? ⟨b, off + 4, none⟩ = some (.int .i64 x4)) (by kernel_rfl) ?_ (fun hHeld => ?_)
  · (simp [go_sem, hb, c1, c2, c3, c4])
  refine wpAnyH_take (i := 0) (v := ?v107_0) rfl (by kernel_rfl) (by kernel_rfl) (by kernel_rfl) (fun _ _ _ h => h) (Or.inl ⟨by kernel_rfl, ?y107_0⟩) (by assumption) ?r107_0
  case y107_0 => ((intro w hSw; (try dsimp only at hSw); go_simp); (try with_reducible rfl))
  try simp only [Act.put, List.getElem_toArray, List.getElem_cons_zero, List.setIfInBounds_toArray, List.set_cons_zero, List.set_cons_succ]
  refine wpAnyH_take (i := 1) (v := ?v108_1) rfl (by kernel_rfl) (by kernel_rfl) (by kernel_rfl) (fun _ _ _ h => h) (Or.inl ⟨by kernel_rfl, ?y108_1⟩) (by assumption) ?r108_1
  case y108_1 => ((intro w hSw; (try dsimp only at hSw); go_simp); (try with_reducible rfl))
  try simp only [Act.put, List.getElem_toArray, List.getElem_cons_succ, List.getElem_cons_zero, List.setIfInBounds_toArray, List.set_cons_zero, List.set_cons_succ]
  refine wpAnyH_take (i := 2) (v := ?v109_2) rfl (by kernel_rfl) (by kernel_rfl) (by kernel_rfl) (fun _ _ _ h => h) (Or.inl ⟨by kernel_rfl, ?y109_2⟩) (by assumption) ?r109_2
  case y109_2 => ((intro w hSw; (try dsimp only at hSw); go_simp); (try with_reducible rfl))
  try simp only [Act.put, List.getElem_toArray, List.getElem_cons_succ, List.getElem_cons_zero, List.setIfInBounds_toArray, List.set_cons_zero, List.set_cons_succ]
  refine wpAnyH_take (i := 3) (v := ?v110_3) rfl (by kernel_rfl) (by kernel_rfl) (by kernel_rfl) (fun _ _ _ h => h) (Or.inl ⟨by kernel_rfl, ?y110_3⟩) (by assumption) ?r110_3
  case y110_3 => ((intro w hSw; (try dsimp only at hSw); go_simp); (try with_reducible rfl))
  try simp only [Act.put, List.getElem_toArray, List.getElem_cons_succ, List.getElem_cons_zero, List.setIfInBounds_toArray, List.set_cons_zero, List.set_cons_succ]
  refine wpAnyH_take (i := 4) (v := ?v111_4) rfl (by kernel_rfl) (by kernel_rfl) (by kernel_rfl) (fun _ _ _ h => h) (Or.inl ⟨by kernel_rfl, ?y111_4⟩) (by assumption) ?r111_4
  case y111_4 => ((intro w hSw; (try dsimp only at hSw); go_simp); (try with_reducible rfl))
  try simp only [Act.put, List.getElem_toArray, List.getElem_cons_succ, List.getElem_cons_zero, List.setIfInBounds_toArray, List.set_cons_zero, List.set_cons_succ]
  refine wpAnyH_take (i := 5) (v := ?v112_5) rfl (by kernel_rfl) (by kernel_rfl) (by kernel_rfl) (fun _ _ _ h => h) (Or.inl ⟨by kernel_rfl, ?y112_5⟩) (by assumption) ?r112_5
  case y112_5 => ((intro w hSw; (try dsimp only at hSw); go_simp); (try with_reducible rfl))
  try simp only [Act.put, List.getElem_toArray, List.getElem_cons_succ, List.getElem_cons_zero, List.setIfInBounds_toArray, List.set_cons_zero, List.set_cons_succ]
  refine wpAnyH_take (i := 6) (v := ?v113_6) rfl (by kernel_rfl) (by kernel_rfl) (by kernel_rfl) (fun _ _ _ h => h) (Or.inl ⟨by kernel_rfl, ?y113_6⟩) (by assumption) ?r113_6
  case y113_6 => ((intro w hSw; (try dsimp only at hSw); go_simp); (try with_reducible rfl))
  try simp only [Act.put, List.getElem_toArray, List.getElem_cons_succ, List.getElem_cons_zero, List.setIfInBounds_toArray, List.set_cons_zero, List.set_cons_succ]
  refine wpAnyH_take (i := 7) (v := ?v114_7) rfl (by kernel_rfl) (by kernel_rfl) (by kernel_rfl) (fun _ _ _ h => h) (Or.inl ⟨by kernel_rfl, ?y114_7⟩) (by assumption) ?r114_7
  case y114_7 => ((intro w hSw; (try dsimp only at hSw); go_simp); (try with_reducible rfl))
  try simp only [Act.put, List.getElem_toArray, List.getElem_cons_succ, List.getElem_cons_zero, List.setIfInBounds_toArray, List.set_cons_zero, List.set_cons_succ]
  refine wpAnyH_take (i := 8) (v := ?v115_8) rfl (by kernel_rfl) (by kernel_rfl) (by kernel_rfl) (fun _ _ _ h => h) (Or.inl ⟨by kernel_rfl, ?y115_8⟩) (by assumption) ?r115_8
  case y115_8 => ((intro w hSw; (try dsimp only at hSw); go_simp); (try with_reducible rfl))
  try simp only [Act.put, List.getElem_toArray, List.getElem_cons_succ, List.getElem_cons_zero, List.setIfInBounds_toArray, List.set_cons_zero, List.set_cons_succ]
  refine wpAnyH_take (i := 9) (v := ?v116_9) rfl (by kernel_rfl) (by kernel_rfl) (by kernel_rfl) (fun _ _ _ h => h) (Or.inl ⟨by kernel_rfl, ?y116_9⟩) (by assumption) ?r116_9
  case y116_9 => ((intro w hSw; (try dsimp only at hSw); go_simp); (try with_reducible rfl))
  try simp only [Act.put, List.getElem_toArray, List.getElem_cons_succ, List.getElem_cons_zero, List.setIfInBounds_toArray, List.set_cons_zero, List.set_cons_succ]
  refine wpAnyH_take (i := 10) (v := ?v117_10) rfl (by kernel_rfl) (by kernel_rfl) (by kernel_rfl) (fun _ _ _ h => h) (Or.inl ⟨by kernel_rfl, ?y117_10⟩) (by assumption) ?r117_10
  case y117_10 => ((intro w hSw; (try dsimp only at hSw); go_simp); (try with_reducible rfl))
  try simp only [Act.put, List.getElem_toArray, List.getElem_cons_succ, List.getElem_cons_zero, List.setIfInBounds_toArray, List.set_cons_zero, List.set_cons_succ]
  refine wpAnyH_take (i := 11) (v := ?v118_11) rfl (by kernel_rfl) (by kernel_rfl) (by kernel_rfl) (fun _ _ _ h => h) (Or.inl ⟨by kernel_rfl, ?y118_11⟩) (by assumption) ?r118_11
  case y118_11 => ((intro w hSw; (try dsimp only at hSw); go_simp); (try with_reducible rfl))
  try simp only [Act.put, List.getElem_toArray, List.getElem_cons_succ, List.getElem_cons_zero, List.setIfInBounds_toArray, List.set_cons_zero, List.set_cons_succ]
  refine wpAnyH_take (i := 12) (v := ?v119_12) rfl (by kernel_rfl) (by kernel_rfl) (by kernel_rfl) (fun _ _ _ h => h) (Or.inl ⟨by kernel_rfl, ?y119_12⟩) (by assumption) ?r119_12
  case y119_12 => ((intro w hSw; (try dsimp only at hSw); go_simp); (try with_reducible rfl))
  try simp only [Act.put, List.getElem_toArray, List.getElem_cons_succ, List.getElem_cons_zero, List.setIfInBounds_toArray, List.set_cons_zero, List.set_cons_succ]
  refine wpAnyH_take (i := 13) (v := ?v120_13) rfl (by kernel_rfl) (by kernel_rfl) (by kernel_rfl) (fun _ _ _ h => h) (Or.inl ⟨by kernel_rfl, ?y120_13⟩) (by assumption) ?r120_13
  case y120_13 => ((intro w hSw; (try dsimp only at hSw); go_simp); (try with_reducible rfl))
  try simp only [Act.put, List.getElem_toArray, List.getElem_cons_succ, List.getElem_cons_zero, List.setIfInBounds_toArray, List.set_cons_zero, List.set_cons_succ]
  refine wpAnyH_take (i := 14) (v := ?v121_14) rfl (by kernel_rfl) (by kernel_rfl) (by kernel_rfl) (fun _ _ _ h => h) (Or.inl ⟨by kernel_rfl, ?y121_14⟩) (by assumption) ?r121_14
  case y121_14 => ((intro w hSw; (try dsimp only at hSw); go_simp); (try with_reducible rfl))
  try simp only [Act.put, List.getElem_toArray, List.getElem_cons_succ, List.getElem_cons_zero, List.setIfInBounds_toArray, List.set_cons_zero, List.set_cons_succ]
  refine wpAnyH_take (i := 15) (v := ?v122_15) rfl (by kernel_rfl) (by kernel_rfl) (by kernel_rfl) (fun _ _ _ h => h) (Or.inl ⟨by kernel_rfl, ?y122_15⟩) (by assumption) ?r122_15
  case y122_15 => ((intro w hSw; (try dsimp only at hSw); go_simp); (try with_reducible rfl))
  try simp only [Act.put, List.getElem_toArray, List.getElem_cons_succ, List.getElem_cons_zero, List.setIfInBounds_toArray, List.set_cons_zero, List.set_cons_succ]
  refine wpAnyH_take (i := 16) (v := ?v123_16) rfl (by kernel_rfl) (by kernel_rfl) (by kernel_rfl) (fun _ _ _ h => h) (Or.inl ⟨by kernel_rfl, ?y123_16⟩) (by assumption) ?r123_16
  case y123_16 => ((intro w hSw; (try dsimp only at hSw); go_simp); (try with_reducible rfl))
  try simp only [Act.put, List.getElem_toArray, List.getElem_cons_succ, List.getElem_cons_zero, List.setIfInBounds_toArray, List.set_cons_zero, List.set_cons_succ]
  refine wpAnyH_take (i := 17) (v := ?v124_17) rfl (by kernel_rfl) (by kernel_rfl) (by kernel_rfl) (fun _ _ _ h => h) (Or.inl ⟨by kernel_rfl, ?y124_17⟩) (by assumption) ?r124_17
  case y124_17 => ((intro w hSw; (try dsimp only at hSw); go_simp); (try with_reducible rfl))
  try simp only [Act.put, List.getElem_toArray, List.getElem_cons_succ, List.getElem_cons_zero, List.setIfInBounds_toArray, List.set_cons_zero, List.set_cons_succ]
  refine wpAnyH_take (i := 18) (v := ?v125_18) rfl (by kernel_rfl) (by kernel_rfl) (by kernel_rfl) (fun _ _ _ h => h) (Or.inl ⟨by kernel_rfl, ?y125_18⟩) (by assumption) ?r125_18
  case y125_18 => ((intro w hSw; (try dsimp only at hSw); go_simp); (try with_reducible rfl))
  try simp only [Act.put, List.getElem_toArray, List.getElem_cons_succ, List.getElem_cons_zero, List.setIfInBounds_toArray, List.set_cons_zero, List.set_cons_succ]
  refine wpAnyH_take (i := 19) (v := ?v126_19) rfl (by kernel_rfl) (by kernel_rfl) (by kernel_rfl) (fun _ _ _ h => h) (Or.inl ⟨by kernel_rfl, ?y126_19⟩) (by assumption) ?r126_19
  case y126_19 => ((intro w hSw; (try dsimp only at hSw); go_simp); (try with_reducible rfl))
  try simp only [Act.put, List.getElem_toArray, List.getElem_cons_succ, List.getElem_cons_zero, List.setIfInBounds_toArray, List.set_cons_zero, List.set_cons_succ]
  refine wpAnyH_take (i := 20) (v := ?v127_20) rfl (by kernel_rfl) (by kernel_rfl) (by kernel_rfl) (fun _ _ _ h => h) (Or.inl ⟨by kernel_rfl, ?y127_20⟩) (by assumption) ?r127_20
  case y127_20 => ((intro w hSw; (try dsimp only at hSw); go_simp); (try with_reducible rfl))
  try simp only [Act.put, List.getElem_toArray, List.getElem_cons_succ, List.getElem_cons_zero, List.setIfInBounds_toArray, List.set_cons_zero, List.set_cons_succ]
  refine wpAnyH_take (i := 21) (v := ?v128_21) rfl (by kernel_rfl) (by kernel_rfl) (by kernel_rfl) (fun _ _ _ h => h) (Or.inl ⟨by kernel_rfl, ?y128_21⟩) (by assumption) ?r128_21
  case y128_21 => ((intro w hSw; (try dsimp only at hSw); go_simp); (try with_reducible rfl))
  try simp only [Act.put, List.getElem_toArray, List.getElem_cons_succ, List.getElem_cons_zero, List.setIfInBounds_toArray, List.set_cons_zero, List.set_cons_succ]
  refine wpAnyH_take (i := 22) (v := ?v129_22) rfl (by kernel_rfl) (by kernel_rfl) (by kernel_rfl) (fun _ _ _ h => h) (Or.inl ⟨by kernel_rfl, ?y129_22⟩) (by assumption) ?r129_22
  case y129_22 => ((intro w hSw; (try dsimp only at hSw); go_simp); (try with_reducible rfl))
  try simp only [Act.put, List.getElem_toArray, List.getElem_cons_succ, List.getElem_cons_zero, List.setIfInBounds_toArray, List.set_cons_zero, List.set_cons_succ]
  refine wpAnyH_ready (rs := [23]) (by kernel_rfl) (by simp) ?_
  refine AllReadyH.cons rfl (fun K hK => ?_) AllReadyH.nil
  simp only [List.getElem_toArray, List.getElem_cons_succ, List.getElem_cons_zero]
  go_simp
  skip
  refine hK.out _ _ ?_ ?_
  · ((try dsimp only); simp [go_sem, hb, c1, c2, c3, c4])
  clear hK K hHeld
  intro hHeld
  try simp only [Act.put, List.getElem_toArray, List.getElem_cons_succ, List.getElem_cons_zero, List.setIfInBounds_toArray, List.set_cons_zero, List.set_cons_succ]
  refine wpAnyH_ready (rs := [24]) (by kernel_rfl) (by simp) ?_
  refine AllReadyH.cons rfl (fun K hK => ?_) AllReadyH.nil
  simp only [List.getElem_toArray, List.getElem_cons_succ, List.getElem_cons_zero]
  go_simp
  (go_at_call 69; (with_reducible refine (HWI.out _ _ ?hi69).mono ?hm69); (case hi69 => exact told_at3 (by simp) x2 x3 x4); rintro e w' ⟨rfl, rfl⟩)
  refine hK.out _ _ ?_ ?_
  · ((try dsimp only); simp [go_sem, hb, c1, c2, c3, c4])
  clear hK K hHeld
  intro hHeld
  try simp only [Act.put, List.getElem_toArray, List.getElem_cons_succ, List.getElem_cons_zero, List.setIfInBounds_toArray, List.set_cons_zero, List.set_cons_succ]
  refine wpAnyH_take (i := 25) (v := ?v132_25) rfl (by kernel_rfl) (by kernel_rfl) (by kernel_rfl) (fun _ _ _ h => h) (Or.inl ⟨by kernel_rfl, ?y132_25⟩) (by assumption) ?r132_25
  case y132_25 => ((intro w hSw; (try dsimp only at hSw); go_simp); (try with_reducible rfl))
  try simp only [Act.put, List.getElem_toArray, List.getElem_cons_succ, List.getElem_cons_zero, List.setIfInBounds_toArray, List.set_cons_zero, List.set_cons_succ]
  refine wpAnyH_take (i := 26) (v := ?v133_26) rfl (by kernel_rfl) (by kernel_rfl) (by kernel_rfl) (fun _ _ _ h => h) (Or.inl ⟨by kernel_rfl, ?y133_26⟩) (by assumption) ?r133_26
  case y133_26 => ((intro w hSw; (try dsimp only at hSw); go_simp); (try with_reducible rfl))
  try simp only [Act.put, List.getElem_toArray, List.getElem_cons_succ, List.getElem_cons_zero, List.setIfInBounds_toArray, List.set_cons_zero, List.set_cons_succ]
  refine wpAnyH_done (by kernel_rfl) ?_ _
  clear hHeld
  go_wp2_with fail
  refine wp_region_held_drew (S := fun w' => w'.cell? ⟨b, off + 1, none⟩ = some (.int .i64 2) ∧ w'.cell? ⟨b, off + 2, none⟩ = some (.int .i64 x2) ∧ w'.cell? ⟨b, off + 3, none⟩ = some (.int .i64 x3) ∧ w'.cell? ⟨b, off + 4, none⟩ = some (.int .i64 x4)) (by kernel_rfl) ?_ (fun hHeld => ?_)
  · (simp [go_sem, hb, c1, c2, c3, c4])
  refine wpAnyH_take (i := 0) (v := ?v94_0) rfl (by kernel_rfl) (by kernel_rfl) (by kernel_rfl) (fun _ _ _ h => h) (Or.inl ⟨by kernel_rfl, ?y94_0⟩) (by assumption) ?r94_0
  case y94_0 => ((intro w hSw; (try dsimp only at hSw); go_simp); (try with_reducible rfl))
  try simp only [Act.put, List.getElem_toArray, List.getElem_cons_zero, List.setIfInBounds_toArray, List.set_cons_zero, List.set_cons_succ]
  refine wpAnyH_take (i := 1) (v := ?v95_1) rfl (by kernel_rfl) (by kernel_rfl) (by kernel_rfl) (fun _ _ _ h => h) (Or.inl ⟨by kernel_rfl, ?y95_1⟩) (by assumption) ?r95_1
  case y95_1 => ((intro w hSw; (try dsimp only at hSw); go_simp); (try with_reducible rfl))
  try simp only [Act.put, List.getElem_toArray, List.getElem_cons_succ, List.getElem_cons_zero, List.setIfInBounds_toArray, List.set_cons_zero, List.set_cons_succ]
  refine wpAnyH_take (i := 2) (v := ?v96_2) rfl (by kernel_rfl) (by kernel_rfl) (by kernel_rfl) (fun _ _ _ h => h) (Or.inl ⟨by kernel_rfl, ?y96_2⟩) (by assumption) ?r96_2
  case y96_2 => ((intro w hSw; (try dsimp only at hSw); go_simp); (try with_reducible rfl))
  try simp only [Act.put, List.getElem_toArray, List.getElem_cons_succ, List.getElem_cons_zero, List.setIfInBounds_toArray, List.set_cons_zero, List.set_cons_succ]
  refine wpAnyH_take (i := 3) (v := ?v97_3) rfl (by kernel_rfl) (by kernel_rfl) (by kernel_rfl) (fun _ _ _ h => h) (Or.inl ⟨by kernel_rfl, ?y97_3⟩) (by assumption) ?r97_3
  case y97_3 => ((intro w hSw; (try dsimp only at hSw); go_simp); (try with_reducible rfl))
  try simp only [Act.put, List.getElem_toArray, List.getElem_cons_succ, List.getElem_cons_zero, List.setIfInBounds_toArray, List.set_cons_zero, List.set_cons_succ]
  refine wpAnyH_take (i := 4) (v := ?v98_4) rfl (by kernel_rfl) (by kernel_rfl) (by kernel_rfl) (fun _ _ _ h => h) (Or.inl ⟨by kernel_rfl, ?y98_4⟩) (by assumption) ?r98_4
  case y98_4 => ((intro w hSw; (try dsimp only at hSw); go_simp); (try with_reducible rfl))
  try simp only [Act.put, List.getElem_toArray, List.getElem_cons_succ, List.getElem_cons_zero, List.setIfInBounds_toArray, List.set_cons_zero, List.set_cons_succ]
  refine wpAnyH_take (i := 5) (v := ?v99_5) rfl (by kernel_rfl) (by kernel_rfl) (by kernel_rfl) (fun _ _ _ h => h) (Or.inl ⟨by kernel_rfl, ?y99_5⟩) (by assumption) ?r99_5
  case y99_5 => ((intro w hSw; (try dsimp only at hSw); go_simp); (try with_reducible rfl))
  try simp only [Act.put, List.getElem_toArray, List.getElem_cons_succ, List.getElem_cons_zero, List.setIfInBounds_toArray, List.set_cons_zero, List.set_cons_succ]
  refine wpAnyH_take (i := 6) (v := ?v100_6) rfl (by kernel_rfl) (by kernel_rfl) (by kernel_rfl) (fun _ _ _ h => h) (Or.inl ⟨by kernel_rfl, ?y100_6⟩) (by assumption) ?r100_6
  case y100_6 => ((intro w hSw; (try dsimp only at hSw); go_simp); (try with_reducible rfl))
  try simp only [Act.put, List.getElem_toArray, List.getElem_cons_succ, List.getElem_cons_zero, List.setIfInBounds_toArray, List.set_cons_zero, List.set_cons_succ]
  refine wpAnyH_take (i := 7) (v := ?v101_7) rfl (by kernel_rfl) (by kernel_rfl) (by kernel_rfl) (fun _ _ _ h => h) (Or.inl ⟨by kernel_rfl, ?y101_7⟩) (by assumption) ?r101_7
  case y101_7 => ((intro w hSw; (try dsimp only at hSw); go_simp); (try with_reducible rfl))
  try simp only [Act.put, List.getElem_toArray, List.getElem_cons_succ, List.getElem_cons_zero, List.setIfInBounds_toArray, List.set_cons_zero, List.set_cons_succ]
  refine wpAnyH_take (i := 8) (v := ?v102_8) rfl (by kernel_rfl) (by kernel_rfl) (by kernel_rfl) (fun _ _ _ h => h) (Or.inl ⟨by kernel_rfl, ?y102_8⟩) (by assumption) ?r102_8
  case y102_8 => ((intro w hSw; (try dsimp only at hSw); go_simp); (try with_reducible rfl))
  try simp only [Act.put, List.getElem_toArray, List.getElem_cons_succ, List.getElem_cons_zero, List.setIfInBounds_toArray, List.set_cons_zero, List.set_cons_succ]
  refine wpAnyH_take (i := 9) (v := ?v103_9) rfl (by kernel_rfl) (by kernel_rfl) (by kernel_rfl) (fun _ _ _ h => h) (Or.inl ⟨by kernel_rfl, ?y103_9⟩) (by assumption) ?r103_9
  case y103_9 => ((intro w hSw; (try dsimp only at hSw); go_simp); (try with_reducible rfl))
  try simp only [Act.put, List.getElem_toArray, List.getElem_cons_succ, List.getElem_cons_zero, List.setIfInBounds_toArray, List.set_cons_zero, List.set_cons_succ]
  refine wpAnyH_ready (rs := [10]) (by kernel_rfl) (by simp) ?_
  refine AllReadyH.cons rfl (fun K hK => ?_) AllReadyH.nil
  simp only [List.getElem_toArray, List.getElem_cons_succ, List.getElem_cons_zero]
  go_simp
  (go_at_call 71; (with_reducible refine (HRG.out _).mono ?_); rintro e w' ⟨rfl, h6, d6, rfl⟩)
  refine hK.out _ _ ?_ ?_
  · ((try dsimp only); simp [go_sem, hb, c1, c2, c3, c4])
  clear hK K hHeld
  intro hHeld
  try simp only [Act.put, List.getElem_toArray, List.getElem_cons_succ, List.getElem_cons_zero, List.setIfInBounds_toArray, List.set_cons_zero, List.set_cons_succ]
  refine wpAnyH_ready (rs := [11]) (by kernel_rfl) (by simp) ?_
  refine AllReadyH.cons rfl (fun K hK => ?_) AllReadyH.nil
  simp only [List.getElem_toArray, List.getElem_cons_succ, List.getElem_cons_zero]
  go_simp
  skip
  refine hK.out _ _ ?_ ?_
  · ((try dsimp only); simp [go_sem, hb, c1, c2, c3, c4])
  clear hK K hHeld
  intro hHeld
  try simp only [Act.put, List.getElem_toArray, List.getElem_cons_succ, List.getElem_cons_zero, List.setIfInBounds_toArray, List.set_cons_zero, List.set_cons_succ]
  refine wpAnyH_take (i := 12) (v := ?v106_12) rfl (by kernel_rfl) (by kernel_rfl) (by kernel_rfl) (fun _ _ _ h => h) (Or.inl ⟨by kernel_rfl, ?y106_12⟩) (by assumption) ?r106_12
  case y106_12 => ((intro w hSw; (try dsimp only at hSw); go_simp); (try with_reducible rfl))
  try simp only [Act.put, List.getElem_toArray, List.getElem_cons_succ, List.getElem_cons_zero, List.setIfInBounds_toArray, List.set_cons_zero, List.set_cons_succ]
  refine wpAnyH_done (by kernel_rfl) ?_ _
  clear hHeld
  go_wp2_with fail
  go_returns
  exact ⟨rfl, (by repeat' (first | (with_reducible exact Grows.refl _) | (with_reducible refine Grows.alloc ?_ _) | (with_reducible refine Grows.drew ?_) | (with_reducible refine Grows.ext ?_ _ _)))⟩
end Go.Proofs.YtobbphkfdhjmdaaDoor

namespace Go.Proofs.YtobbphkfdhjmdaaDoor
open Go.RowKit

set_option maxRecDepth 100000 in
set_option maxHeartbeats 8000000 in
theorem alone_six2 (_a : Option Addr) (cap b off : Nat) (x0 x2 x3 x4 x5 : Int) (hx : 0 < x0) (_hx9 : x0 ≤ 9999) (h4 : x0 ≠ 4) (hw : 0 ≤ whichV x0) (w : World) (hb : b < w.heap.size) (_hcap : 6 ≤ cap) (c0 : w.cell? ⟨b, off, none⟩ = some (.int .i64 x0)) (c1 : w.cell? ⟨b, off + 1, none⟩ = some (.int .i64 2)) (c2 : w.cell? ⟨b, off + 2, none⟩ = some (.int .i64 x2)) (c3 : w.cell? ⟨b, off + 3, none⟩ = some (.int .i64 x3)) (c4 : w.cell? ⟨b, off + 4, none⟩ = some (.int .i64 x4)) (c5 : w.cell? ⟨b, off + 5, none⟩ = some (.int .i64 x5)) (hwi : withinL [x3, x4, x5] = true) :
    Calls Tryd.prog 72 #[.agg #[.slice (some ⟨b, off, none⟩) 6 cap]] w (Ret (.tuple #[.agg (ansC (rgbP (whichV x0) x3 x4 x5, true)), .bool true]) w) := by
  have HWI := Lib.hid fun v W (h : IntsAt W v [x3, x4, x5]) => rwithin_any v [x3, x4, x5] (by simp) W h
  rw [hwi] at HWI
  have e4 : (x0 == 4) = false := by simpa using h4
  have e5 : decide (whichV x0 ≥ 0) = true := by simpa using hw
  have e6 : (0 : Int) < x0 := hx
  have hrg : (0 ≤ x3 ∧ x3 ≤ 255) ∧ (0 ≤ x4 ∧ x4 ≤ 255) ∧ (0 ≤ x5 ∧ x5 ≤ 255) := by simpa [withinL] using hwi
  obtain ⟨r2, r3, r4⟩ := hrg
  have HRG := Lib.hid fun W => rgb71_any (whichV x0) x3 x4 x5 r2 r3 r4 W
  clear hwi h4 r2 r3 r4
  go_enter Tryd.func72, Tryd.ntmps72
  go_wp2_with (first | (go_at_call 68; (with_reducible refine (which_any _ _).mono ?_); rintro e w' ⟨rfl, h2, d2, rfl⟩))
  refine wp_region_grow (by kernel_rfl) (by kernel_rfl) ?_
  repeat (first | go_big_quiet_step ((fail)) | quiet_step ((fail)))
  refine wpQuiet_nil ?_
  rintro _ ⟨g164, rfl⟩
  go_wp2_with fail
  refine wp_region_held_drew (S := fun w' => w'.cell? ⟨b, off + 1, none⟩ = some (.int .i64 2) ∧ w'.cell? ⟨b, off + 2, none⟩ = some (.int .i64 x2) ∧ w'.cell? ⟨b, off + 3, none⟩ = some (.int .i64 x3) ∧ w'.cell? ⟨b, off + 4, none⟩ = some (.int .i64 x4) ∧ w'.cell? ⟨b, off + 5, none⟩ = some (.int .i64 x5)) (by kernel_rfl) ?_ (fun hHeld => ?_)
  · (simp [go_sem, hb, c1, c2, c3, c4, c5])
  refine wpAnyH_take (i := 0) (v := ?v134_0) rfl (by kernel_rfl) (by kernel_rfl) (by kernel_rfl) (fun _ _ _ h => h) (Or.inl ⟨by kernel_rfl, ?y134_0⟩) (by assumption) ?r134_0
  case y134_0 => ((intro w hSw; (try dsimp only at hSw); go_simp); (try with_reducible rfl))
  try simp only [Act.put, List.getElem_toArray, List.getElem_cons_zero, List.setIfInBounds_toArray, List.set_cons_zero, List.set_cons_succ]
  refine wpAnyH_take (i := 1) (v := ?v135_1) rfl (by kernel_rfl) (by kernel_rfl) (by kernel_rfl) (fun _ _ _ h => h) (Or.inl ⟨by kernel_rfl, ?y135_1⟩) (by assumption) ?r135_1
  case y135_1 => ((intro w hSw; (try dsimp only at hSw); go_simp); (try with_reducible rfl))
  try simp only [Act.put, List.getElem_toArray, List.getElem_cons_succ, List.getElem_cons_zero, List.setIfInBounds_toArray, List.set_cons_zero, List.set_cons_succ]
  refine wpAnyH_take (i := 2) (v := ?v136_2) rfl (by kernel_rfl) (by kernel_rfl) (by kernel_rfl) (fun _ _ _ h => h) (Or.inl ⟨by kernel_rfl, ?y136_2⟩) (by assumption) ?r136_2
  case y136_2 => ((intro w hSw; (try dsimp only at hSw); go_simp); (try with_reducible rfl))
  try simp only [Act.put, List.getElem_toArray, List.getElem_cons_succ, List.getElem_cons_zero, List.setIfInBounds_toArray, List.set_cons_zero, List.set_cons_succ]
  refine wpAnyH_take (i := 3) (v := ?v137_3) rfl (by kernel_rfl) (by kernel_rfl) (by kernel_rfl) (fun _ _ _ h => h) (Or.inl ⟨by kernel_rfl, ?y137_3⟩) (by assumption) ?r137_3
  case y137_3 => ((intro w hSw; (try dsimp only at hSw); go_simp); (try with_reducible rfl))
  try simp only [Act.put, List.getElem_toArray, List.getElem_cons_succ, List.getElem_cons_zero, List.setIfInBounds_toArray, List.set_cons_zero, List.set_cons_succ]
  refine wpAnyH_take (i := 4) (v := ?v138_4) rfl (by kernel_rfl) (by kernel_rfl) (by kernel_rfl) (fun _ _ _ h => h) (Or.inl ⟨by kernel_rfl, ?y138_4⟩) (by assumption) ?r138_4
  case y138_4 => ((intro w hSw; (try dsimp only at hSw); go_simp); (try with_reducible rfl))
  try simp only [Act.put, List.getElem_toArray, List.getElem_cons_succ, List.getElem_cons_zero, List.setIfInBounds_toArray, List.set_cons_zero, List.set_cons_succ]
  refine wpAnyH_take (i := 5) (v := ?v139_5) rfl (by kernel_rfl) (by kernel_rfl) (by kernel_rfl) (fun _ _ _ h => h) (Or.inl ⟨by kernel_rfl, ?y139_5⟩) (by assumption) ?r139_5
  case y139_5 => ((intro w hSw; (try dsimp only at hSw); go_simp); (try with_reducible rfl))
  try simp only [Act.put, List.getElem_toArray, List.getElem_cons_succ, List.getElem_cons_zero, List.setIfInBounds_toArray, List.set_cons_zero, List.set_cons_succ]
  refine wpAnyH_take (i := 6) (v := ?v140_6) rfl (by kernel_rfl) (by kernel_rfl) (by kernel_rfl) (fun _ _ _ h => h) (Or.inl ⟨by kernel_rfl, ?y140_6⟩) (by assumption) ?r140_6
  case y140_6 => ((intro w hSw; (try dsimp only at hSw); go_simp); (try with_reducible rfl))
  try simp only [Act.put, List.getElem_toArray, List.getElem_cons_succ, List.getElem_cons_zero, List.setIfInBounds_toArray, List.set_cons_zero, List.set_cons_succ]
  refine wpAnyH_take (i := 7) (v := ?v141_7) rfl (by kernel_rfl) (by kernel_rfl) (by kernel_rfl) (fun _ _ _ h => h) (Or.inl ⟨by kernel_rfl, ?y141_7⟩) (by assumption) ?r141_7
  case y141_7 => ((intro w hSw; (try dsimp only at hSw); go_simp); (try with_reducible rfl))
  try simp only [Act.put, List.getElem_toArray, List.getElem_cons_succ, List.getElem_cons_zero, List.setIfInBounds_toArray, List.set_cons_zero, List.set_cons_succ]
  refine wpAnyH_take (i := 8) (v := ?v142_8) rfl (by kernel_rfl) (by kernel_rfl) (by kernel_rfl) (fun _ _ _ h => h) (Or.inl ⟨by kernel_rfl, ?y142_8⟩) (by assumption) ?r142_8
  case y142_8 => ((intro w hSw; (try dsimp only at hSw); go_simp); (try with_reducible rfl))
  try simp only [Act.put, List.getElem_toArray, List.getElem_cons_succ, List.getElem_cons_zero, List.setIfInBounds_toArray, List.set_cons_zero, List.set_cons_succ]
  refine wpAnyH_take (i := 9) (v := ?v143_9) rfl (by kernel_rfl) (by kernel_rfl) (by kernel_rfl) (fun _ _ _ h => h) (Or.inl ⟨by kernel_rfl, ?y143_9⟩) (by assumption) ?r143_9
  case y143_9 => ((intro w hSw; (try dsimp only at hSw); go_simp); (try with_reducible rfl))
  try simp only [Act.put, List.getElem_toArray, List.getElem_cons_succ, List.getElem_cons_zero, List.setIfInBounds_toArray, List.set_cons_zero, List.set_cons_succ]
  refine wpAnyH_take (i := 10) (v := ?v144_10) rfl (by kernel_rfl) (by kernel_rfl) (by kernel_rfl) (fun _ _ _ h => h) (Or.inl ⟨by kernel_rfl, ?y144_10⟩) (by assumption) ?r144_10
  case y144_10 => ((intro w hSw; (try dsimp only at hSw); go_simp); (try with_reducible rfl))
  try simp only [Act.put, List.getElem_toArray, List.getElem_cons_succ, List.getElem_cons_zero, List.setIfInBounds_toArray, List.set_cons_zero, List.set_cons_succ]
  refine wpAnyH_take (i := 11) (v := ?v145_11) rfl (by kernel_rfl) (by kernel_rfl) (by kernel_rfl) (fun _ _ _ h => h) (Or.inl ⟨by kernel_rfl, ?y145_11⟩) (by assumption) ?r145_11
  case y145_11 => ((intro w hSw; (try dsimp only at hSw); go_simp); (try with_reducible rfl))
  try simp only [Act.put, List.getElem_toArray, List.getElem_cons_succ, List.getElem_cons_zero, List.setIfInBounds_toArray, List.set_cons_zero, List.set_cons_succ]
  refine wpAnyH_take (i := 12) (v := ?v146_12) rfl (by kernel_rfl) (by kernel_rfl) (by kernel_rfl) (fun _ _ _ h => h) (Or.inl ⟨by kernel_rfl, ?y146_12⟩) (by assumption) ?r146_12
  case y146_12 => ((intro w hSw; (try dsimp only at hSw); go_simp); (try with_reducible rfl))
  try simp only [Act.put, List.getElem_toArray, List.getElem_cons_succ, List.getElem_cons_zero, List.setIfInBounds_toArray, List.set_cons_zero, List.set_cons_succ]
  refine wpAnyH_take (i := 13) (v := ?v147_13) rfl (by kernel_rfl) (by kernel_rfl) (by kernel_rfl) (fun _ _ _ h => h) (Or.inl ⟨by kernel_rfl, ?y147_13⟩) (by assumption) ?r147_13
  case y147_13 => ((intro w hSw; (try dsimp only at hSw); go_simp); (try with_reducible rfl))
  try simp only [Act.put, List.getElem_toArray, List.getElem_cons_succ, List.getElem_cons_zero, List.setIfInBounds_toArray, List.set_cons_zero, List.set_cons_succ]
  refine wpAnyH_take (i := 14) (v := ?v148_14) rfl (by kernel_rfl) (by kernel_rfl) (by kernel_rfl) (fun _ _ _ h => h) (Or.inl ⟨by kernel_rfl, ?y148_14⟩) (by assumption) ?r148_14
  case y148_14 => ((intro w hSw; (try dsimp only at hSw); go_simp); (try with_reducible rfl))
  try simp only [Act.put, List.getElem_toArray, List.getElem_cons_succ, List.getElem_cons_zero, List.setIfInBounds_toArray, List.set_cons_zero, List.set_cons_succ]
  refine wpAnyH_take (i := 15) (v := ?v149_15) rfl (by kernel_rfl) (by kernel_rfl) (by kernel_rfl) (fun _ _ _ h => h) (Or.inl ⟨by kernel_rfl, ?y149_15⟩) (by assumption) ?r149_15
  case y149_15 => ((intro w hSw; (try dsimp only at hSw); go_simp); (try with_reducible rfl))
  try simp only [Act.put, List.getElem_toArray, List.getElem_cons_succ, List.getElem_cons_zero, List.setIfInBounds_toArray, List.set_cons_zero, List.set_cons_succ]
  refine wpAnyH_take (i := 16) (v := ?v150_16) rfl (by kernel_rfl) (by kernel_rfl) (by kernel_rfl) (fun _ _ _ h => h) (Or.inl ⟨by kernel_rfl, ?y150_16⟩) (by assumption) ?r150_16
  case y150_16 => ((intro w hSw; (try dsimp only at hSw); go_simp); (try with_reducible rfl))
  try simp only [Act.put, List.getElem_toArray, List.getElem_cons_succ, List.getElem_cons_zero, List.setIfInBounds_toArray, List.set_cons_zero, List.set_cons_succ]
  refine wpAnyH_take (i := 17) (v := ?v151_17) rfl (by kernel_rfl) (by kernel_rfl) (by kernel_rfl) (fun _ _ _ h => h) (Or.inl ⟨by kernel_rfl, ?y151_17⟩) (by assumption) ?r151_17
  case y151_17 => ((intro w hSw; (try dsimp only at hSw); go_simp); (try with_reducible rfl))
  try simp only [Act.put, List.getElem_toArray, List.getElem_cons_succ, List.getElem_cons_zero, List.setIfInBounds_toArray, List.set_cons_zero, List.set_cons_succ]
  refine wpAnyH_take (i := 18) (v := ?v152_18) rfl (by kernel_rfl) (by kernel_rfl) (by kernel_rfl) (fun _ _ _ h => h) (Or.inl ⟨by kernel_rfl, ?y152_18⟩) (by assumption) ?r152_18
  case y152_18 => ((intro w hSw; (try dsimp only at hSw); go_simp); (try with_reducible rfl))
  try simp only [Act.put, List.getElem_toArray, List.getElem_cons_succ, List.getElem_cons_zero, List.setIfInBounds_toArray, List.set_cons_zero, List.set_cons_succ]
  refine wpAnyH_take (i := 19) (v := ?v153_19) rfl (by kernel_rfl) (by kernel_rfl) (by kernel_rfl) (fun _ _ _ h => h) (Or.inl ⟨by kernel_rfl, ?y153_19⟩) (by assumption) ?r153_19
  case y153_19 => ((intro w hSw; (try dsimp only at hSw); go_simp); (try with_reducible rfl))
  try simp only [Act.put, List.getElem_toArray, List.getElem_cons_succ, List.getElem_cons_zero, List.setIfInBounds_toArray, List.set_cons_zero, List.set_cons_succ]
  refine wpAnyH_take (i := 20) (v := ?v154_20) rfl (by kernel_rfl) (by kernel_rfl) (by kernel_rfl) (fun _ _ _ h => h) (Or.inl ⟨by kernel_rfl, ?y154_20⟩) (by assumption) ?r154_20
  case y154_20 => ((intro w hSw; (try dsimp only at hSw); go_simp); (try with_reducible rfl))
  try simp only [Act.put, List.getElem_toArray, List.getElem_cons_succ, List.getElem_cons_zero, List.setIfInBounds_toArray, List.set_cons_zero, List.set_cons_succ]
  refine wpAnyH_take (i := 21) (v := ?v155_21) rfl (by kernel_rfl) (by kernel_rfl) (by kernel_rfl) (fun _ _ _ h => h) (Or.inl ⟨by kernel_rfl, ?y155_21⟩) (by assumption) ?r155_21
  case y155_21 => ((intro w hSw; (try dsimp only at hSw); go_simp); (try with_reducible rfl))
  try simp only [Act.put, List.getElem_toArray, List.getElem_cons_succ, List.getElem_cons_zero, List.setIfInBounds_toArray, List.set_cons_zero, List.set_cons_succ]
  refine wpAnyH_take (i := 22) (v := ?v156_22) rfl (by kernel_rfl) (by kernel_rfl) (by kernel_rfl) (fun _ _ _ h => h) (Or.inl ⟨by kernel_rfl, ?y156_22⟩) (by assumption) ?r156_22
  case y156_22 => ((intro w hSw; (try dsimp only at hSw); go_simp); (try with_reducible rfl))
  try simp only [Act.put, List.getElem_toArray, List.getElem_cons_succ, List.getElem_cons_zero, List.setIfInBounds_toArray, List.set_cons_zero, List.set_cons_succ]
  refine wpAnyH_ready (rs := [23]) (by kernel_rfl) (by simp) ?_
  refine AllReadyH.cons rfl (fun K hK => ?_) AllReadyH.nil
  simp only [List.getElem_toArray, List.getElem_cons_succ, List.getElem_cons_zero]
  go_simp
  skip
  refine hK.out _ _ ?_ ?_
  · ((try dsimp only); simp [go_sem, hb, c1, c2, c3, c4, c5])
  clear hK K hHeld
  intro hHeld
  try simp only [Act.put, List.getElem_toArray, List.getElem_cons_succ, List.getElem_cons_zero, List.setIfInBounds_toArray, List.set_cons_zero, List.set_cons_succ]
  refine wpAnyH_ready (rs := [24]) (by kernel_rfl) (by simp) ?_
  refine AllReadyH.cons rfl (fun K hK => ?_) AllReadyH.nil
  simp only [List.getElem_toArray, List.getElem_cons_succ, List.getElem_cons_zero]
  go_simp
  (go_at_call 69; (with_reducible refine (HWI.out _ _ ?hi69d).mono ?hm69d); (case hi69d => exact told_at3 (by simp) x3 x4 x5); rintro e w' ⟨rfl, rfl⟩)
  refine hK.out _ _ ?_ ?_
  · ((try dsimp only); simp [go_sem, hb, c1, c2, c3, c4, c5])
  clear hK K hHeld
  intro hHeld
  try simp only [Act.put, List.getElem_toArray, List.getElem_cons_succ, List.getElem_cons_zero, List.setIfInBounds_toArray, List.set_cons_zero, List.set_cons_succ]
  refine wpAnyH_take (i := 25) (v := ?v159_25) rfl (by kernel_rfl) (by kernel_rfl) (by kernel_rfl) (fun _ _ _ h => h) (Or.inl ⟨by kernel_rfl, ?y159_25⟩) (by assumption) ?r159_25
  case y159_25 => ((intro w hSw; (try dsimp only at hSw); go_simp); (try with_reducible rfl))
  try simp only [Act.put, List.getElem_toArray, List.getElem_cons_succ, List.getElem_cons_zero, List.setIfInBounds_toArray, List.set_cons_zero, List.set_cons_succ]
  refine wpAnyH_take (i := 26) (v := ?v160_26) rfl (by kernel_rfl) (by kernel_rfl) (by kernel_rfl) (fun _ _ _ h => h) (Or.inl ⟨by kernel_rfl, ?y160_26⟩) (by assumption) ?r160_26
  case y160_26 => ((intro w hSw; (try dsimp only at hSw); go_simp); (try with_reducible rfl))
  try simp only [Act.put, List.getElem_toArray, List.getElem_cons_succ, List.getElem_cons_zero, List.setIfInBounds_toArray, List.set_cons_zero, List.set_cons_succ]
  refine wpAnyH_done (by kernel_rfl) ?_ _
  clear hHeld
  go_wp2_with fail
  refine wp_region_held_drew (S := fun w' => w'.cell? ⟨b, off + 1, none⟩ = some (.int .i64 2) ∧ w'.cell? ⟨b, off + 2, none⟩ = some (.int .i64 x2) ∧ w'.cell? ⟨b, off + 3, none⟩ = some (.int .i64 x3) ∧ w'.cell? ⟨b, off + 4, none⟩ = some (.int .i64 x4) ∧ w'.cell? ⟨b, off + 5, none⟩ = some (.int .i64 x5)) (by kernel_rfl) ?_ (fun hHeld => ?_)
  · (simp [go_sem, hb, c1, c2, c3, c4, c5])
  refine wpAnyH_take (i := 0) (v := ?v161_0) rfl (by kernel_rfl) (by kernel_rfl) (by kernel_rfl) (fun _ _ _ h => h) (Or.inl ⟨by kernel_rfl, ?y161_0⟩) (by assumption) ?r161_0
  case y161_0 => ((intro w hSw; (try dsimp only at hSw); go_simp); (try with_reducible rfl))
  try simp only [Act.put, List.getElem_toArray, List.getElem_cons_zero, List.setIfInBounds_toArray, List.set_cons_zero, List.set_cons_succ]
  refine wpAnyH_take (i := 1) (v := ?v162_1) rfl (by kernel_rfl) (by kernel_rfl) (by kernel_rfl) (fun _ _ _ h => h) (Or.inl ⟨by kernel_rfl, ?y162_1⟩) (by assumption) ?r162_1
  case y162_1 => ((intro w hSw; (try dsimp only at hSw); go_simp); (try with_reducible rfl))
  try simp only [Act.put, List.getElem_toArray, List.getElem_cons_succ, List.getElem_cons_zero, List.setIfInBounds_toArray, List.set_cons_zero, List.set_cons_succ]
  refine wpAnyH_take (i := 2) (v := ?v163_2) rfl (by kernel_rfl) (by kernel_rfl) (by kernel_rfl) (fun _ _ _ h => h) (Or.inl ⟨by kernel_rfl, ?y163_2⟩) (by assumption) ?r163_2
  case y163_2 => ((intro w hSw; (try dsimp only at hSw); go_simp); (try with_reducible rfl))
  try simp only [Act.put, List.getElem_toArray, List.getElem_cons_succ, List.getElem_cons_zero, List.setIfInBounds_toArray, List.set_cons_zero, List.set_cons_succ]
  refine wpAnyH_take (i := 3) (v := ?v164_3) rfl (by kernel_rfl) (by kernel_rfl) (by kernel_rfl) (fun _ _ _ h => h) (Or.inl ⟨by kernel_rfl, ?y164_3⟩) (by assumption) ?r164_3
  case y164_3 => ((intro w hSw; (try dsimp only at hSw); go_simp); (try with_reducible rfl))
  try simp only [Act.put, List.getElem_toArray, List.getElem_cons_succ, List.getElem_cons_zero, List.setIfInBounds_toArray, List.set_cons_zero, List.set_cons_succ]
  refine wpAnyH_take (i := 4) (v := ?v165_4) rfl (by kernel_rfl) (by kernel_rfl) (by kernel_rfl) (fun _ _ _ h => h) (Or.inl ⟨by kernel_rfl, ?y165_4⟩) (by assumption) ?r165_4
  case y165_4 => ((intro w hSw; (try dsimp only at hSw); go_simp); (try with_reducible rfl))
  try simp only [Act.put, List.getElem_toArray, List.getElem_cons_succ, List.getElem_cons_zero, List.setIfInBounds_toArray, List.set_cons_zero, List.set_cons_succ]
  refine wpAnyH_take (i := 5) (v := ?v166_5) rfl (by kernel_rfl) (by kernel_rfl) (by kernel_rfl) (fun _ _ _ h => h) (Or.inl ⟨by kernel_rfl, ?y166_5⟩) (by assumption) ?r166_5
  case y166_5 => ((intro w hSw; (try dsimp only at hSw); go_simp); (try with_reducible rfl))
  try simp only [Act.put, List.getElem_toArray, List.getElem_cons_succ, List.getElem_cons_zero, List.setIfInBounds_toArray, List.set_cons_zero, List.set_cons_succ]
  refine wpAnyH_take (i := 6) (v := ?v167_6) rfl (by kernel_rfl) (by kernel_rfl) (by kernel_rfl) (fun _ _ _ h => h) (Or.inl ⟨by kernel_rfl, ?y167_6⟩) (by assumption) ?r167_6
  case y167_6 => ((intro w hSw; (try dsimp only at hSw); go_simp); (try with_reducible rfl))
  try simp only [Act.put, List.getElem_toArray, List.getElem_cons_succ, List.getElem_cons_zero, List.setIfInBounds_toArray, List.set_cons_zero, List.set_cons_succ]
  refine wpAnyH_take (i := 7) (v := ?v168_7) rfl (by kernel_rfl) (by kernel_rfl) (by kernel_rfl) (fun _ _ _ h => h) (Or.inl ⟨by kernel_rfl, ?y168_7⟩) (by assumption) ?r168_7
  case y168_7 => ((intro w hSw; (try dsimp only at hSw); go_simp); (try with_reducible rfl))
  try simp only [Act.put, List.getElem_toArray, List.getElem_cons_succ, List.getElem_cons_zero, List.setIfInBounds_toArray, List.set_cons_zero, List.set_cons_succ]
  refine wpAnyH_take (i := 8) (v := ?v169_8) rfl (by kernel_rfl) (by kernel_rfl) (by kernel_rfl) (fun _ _ _ h => h) (Or.inl ⟨by kernel_rfl, ?y169_8⟩) (by assumption) ?r169_8
  case y169_8 => ((intro w hSw; (try dsimp only at hSw); go_simp); (try with_reducible rfl))
  try simp only [Act.put, List.getElem_toArray, List.getElem_cons_succ, List.getElem_cons_zero, List.setIfInBounds_toArray, List.set_cons_zero, List.set_cons_succ]
  refine wpAnyH_take (i := 9) (v := ?v170_9) rfl (by kernel_rfl) (by kernel_rfl) (by kernel_rfl) (fun _ _ _ h => h) (Or.inl ⟨by kernel_rfl, ?y170_9⟩) (by assumption) ?r170_9
  case y170_9 => ((intro w hSw; (try dsimp only at hSw); go_simp); (try with_reducible rfl))
  try simp only [Act.put, List.getElem_toArray, List.getElem_cons_succ, List.getElem_cons_zero, List.setIfInBounds_toArray, List.set_cons_zero, List.set_cons_succ]
  refine wpAnyH_ready (rs := [10]) (by kernel_rfl) (by simp) ?_
  refine AllReadyH.cons rfl (fun K hK => ?_) AllReadyH.nil
  simp only [List.getElem_toArray, List.getElem_cons_succ, List.getElem_cons_zero]
  go_simp
  (go_at_call 71; (with_reducible refine (HRG.out _).mono ?_); rintro e w' ⟨rfl, h6, d6, rfl⟩)
  refine hK.out _ _ ?_ ?_
  · ((try dsimp only); simp [go_sem, hb, c1, c2, c3, c4, c5])
  clear hK K hHeld
  intro hHeld
  try simp only [Act.put, List.getElem_toArray, List.getElem_cons_succ, List.getElem_cons_zero, List.setIfInBounds_toArray, List.set_cons_zero, List.set_cons_succ]
  refine wpAnyH_ready (rs := [11]) (by kernel_rfl) (by simp) ?_
  refine AllReadyH.cons rfl (fun K hK => ?_) AllReadyH.nil
  simp only [List.getElem_toArray, List.getElem_cons_succ, List.getElem_cons_zero]
  go_simp
  skip
  refine hK.out _ _ ?_ ?_
  · ((try dsimp only); simp [go_sem, hb, c1, c2, c3, c4, c5])
  clear hK K hHeld
  intro hHeld
  try simp only [Act.put, List.getElem_toArray, List.getElem_cons_succ, List.getElem_cons_zero, List.setIfInBounds_toArray, List.set_cons_zero, List.set_cons_succ]
  refine wpAnyH_take (i := 12) (v := ?v173_12) rfl (by kernel_rfl) (by kernel_rfl) (by kernel_rfl) (fun _ _ _ h => h) (Or.inl ⟨by kernel_rfl, ?y173_12⟩) (by assumption) ?r173_12
  case y173_12 => ((intro w hSw; (try dsimp only at hSw); go_simp); (try with_reducible rfl))
  try simp only [Act.put, List.getElem_toArray, List.getElem_cons_succ, List.getElem_cons_zero, List.setIfInBounds_toArray, List.set_cons_zero, List.set_cons_succ]
  refine wpAnyH_done (by kernel_rfl) ?_ _
  clear hHeld
  go_wp2_with fail
  go_returns
  exact ⟨rfl, (by repeat' (first | (with_reducible exact Grows.refl _) | (with_reducible refine Grows.alloc ?_ _) | (with_reducible refine Grows.drew ?_) | (with_reducible refine Grows.ext ?_ _ _)))⟩
set_option maxRecDepth 100000 in
set_option maxHeartbeats 8000000 in
theorem alone_five (s : Value) (x0 x1 x2 x3 x4 : Int) (hr0 : -1 ≤ x0 ∧ x0 ≤ 9999) (hr1 : -1 ≤ x1 ∧ x1 ≤ 9999) (_hr2 : -1 ≤ x2 ∧ x2 ≤ 9999) (_hr3 : -1 ≤ x3 ∧ x3 ≤ 9999) (_hr4 : -1 ≤ x4 ∧ x4 ≤ 9999) (w : World) (h : IntsAt w s [x0, x1, x2, x3, x4]) : Calls Tryd.prog 72 #[.agg #[s]] w (Ret (.tuple #[.agg (ansC (aloneR [x0, x1, x2, x3, x4])), .bool (aloneR [x0, x1, x2, x3, x4]).2]) w) := by
  obtain ⟨a, cap, rfl, hcap, hin⟩ := h
  obtain ⟨b, off, rfl, hb, hc⟩ := hin (by simp)
  have c0 := hc 0 (by simp)
  have c1 := hc 1 (by simp)
  have c2 := hc 2 (by simp)
  have c3 := hc 3 (by simp)
  have c4 := hc 4 (by simp)
  simp only [List.getElem?_cons_zero, List.getElem?_cons_succ, Option.getD_some, Nat.add_zero] at c0 c1 c2 c3 c4
  clear hin hc
  by_cases hx : 0 < x0
  · have hm : max 0 x0 = x0 := by omega
    by_cases h4 : x0 = 4
    · subst h4
      have hw4 : whichV 4 = -1 := by decide
      have HA := Lib.hid (show aloneR [4, x1, x2, x3, x4] = (noPen, false) by simp [aloneR, m04, hw4])
      clear hm
      go_enter Tryd.func72, Tryd.ntmps72
      go_wp2_with (first | (go_at_call 68; (with_reducible refine (which_any _ _).mono ?_); rintro e w' ⟨rfl, h2, d2, rfl⟩) | (go_at_call 36; (with_reducible refine (pen36_any _ _ _).mono ?_); rintro e w' ⟨rfl, h3, d3, rfl⟩) | (go_at_call 70; (with_reducible refine (col70_any _ _ _ _).mono ?_); rintro e w' ⟨rfl, h4, d4, rfl⟩))
      refine wp_region_grow (by kernel_rfl) (by kernel_rfl) ?_
      repeat (first | go_big_quiet_step ((fail)) | quiet_step ((fail)))
      refine wpQuiet_nil ?_
      rintro _ ⟨g166, rfl⟩
      go_wp2_with fail
      refine wp_region_grow (by kernel_rfl) (by kernel_rfl) ?_
      repeat (first | go_big_quiet_step ((fail)) | quiet_step ((fail)))
      refine wpQuiet_nil ?_
      rintro _ ⟨g167, rfl⟩
      go_wp2_with fail
      go_returns
      exact ⟨by rw [HA.out]; rfl, (by repeat' (first | (with_reducible exact Grows.refl _) | (with_reducible refine Grows.alloc ?_ _) | (with_reducible refine Grows.drew ?_) | (with_reducible refine Grows.ext ?_ _ _)))⟩
    · by_cases hw : 0 ≤ whichV x0
      · by_cases h5 : x1 = 2
        · subst h5
          cases hwi : withinL [x2, x3, x4] with
          | true =>
            rw [show aloneR [x0, 2, x2, x3, x4] = (rgbP (whichV x0) x2 x3 x4, true) by simp [aloneR, hm, h4, hw, hwi]]
            exact alone_five2 none cap b off x0 x2 x3 x4 hx hr0.2 h4 hw w hb (by simpa using hcap) c0 c1 c2 c3 c4 hwi
          | false =>
            have HWI := Lib.hid fun v W (h : IntsAt W v [x2, x3, x4]) => rwithin_any v [x2, x3, x4] (by simp) W h
            rw [hwi] at HWI
            have e4 : (x0 == 4) = false := by simpa using h4
            have e5 : decide (whichV x0 ≥ 0) = true := by simpa using hw
            have HA := Lib.hid (show aloneR [x0, 2, x2, x3, x4] = (noPen, false) by simp [aloneR, hm, hwi])
            clear hm hwi h4
            go_enter Tryd.func72, Tryd.ntmps72
            go_wp2_with (first | (go_at_call 68; (with_reducible refine (which_any _ _).mono ?_); rintro e w' ⟨rfl, h2, d2, rfl⟩))
            refine wp_region_held_drew (S := fun w' => w'.cell? ⟨b, off + 1, none⟩ = some (.int .i64 2) ∧ w'.cell? ⟨b, off + 2, none⟩ = some (.int .i64 x2) ∧ w'.cell? ⟨b, off + 3, none⟩ = some (.int .i64 x3) ∧ w'.cell? ⟨b, off + 4, none⟩ = some (.int .i64 x4)) (by kernel_rfl) ?_ (fun hHeld => ?_)
            · (simp [go_sem, hb, c1, c2, c3, c4])
            refine wpAnyH_take (i := 0) (v := ?v174_0) rfl (by kernel_rfl) (by kernel_rfl) (by kernel_rfl) (fun _ _ _ h => h) (Or.inl ⟨by kernel_rfl, ?y174_0⟩) (by assumption) ?r174_0
            case y174_0 => ((intro w hSw; (try dsimp only at hSw); go_simp); (try with_reducible rfl))
            try simp only [Act.put, List.getElem_toArray, List.getElem_cons_zero, List.setIfInBounds_toArray, List.set_cons_zero, List.set_cons_succ]
            refine wpAnyH_take (i := 1) (v := ?v175_1) rfl (by kernel_rfl) (by kernel_rfl) (by kernel_rfl) (fun _ _ _ h => h) (Or.inl ⟨by kernel_rfl, ?y175_1⟩) (by assumption) ?r175_1
            case y175_1 => ((intro w hSw; (try dsimp only at hSw); go_simp); (try with_reducible rfl))
            try simp only [Act.put, List.getElem_toArray, List.getElem_cons_succ, List.getElem_cons_zero, List.setIfInBounds_toArray, List.set_cons_zero, List.set_cons_succ]
            refine wpAnyH_take (i := 2) (v := ?v176_2) rfl (by kernel_rfl) (by kernel_rfl) (by kernel_rfl) (fun _ _ _ h => h) (Or.inl ⟨by kernel_rfl, ?y176_2⟩) (by assumption) ?r176_2
            case y176_2 => ((intro w hSw; (try dsimp only at hSw); go_simp); (try with_reducible rfl))
            try simp only [Act.put, List.getElem_toArray, List.getElem_cons_succ, List.getElem_cons_zero, List.setIfInBounds_toArray, List.set_cons_zero, List.set_cons_succ]
            refine wpAnyH_take (i := 3) (v := ?v177_3) rfl (by kernel_rfl) (by kernel_rfl) (by kernel_rfl) (fun _ _ _ h => h) (Or.inl ⟨by kernel_rfl, ?y177_3⟩) (by assumption) ?r177_3
            case y177_3 => ((intro w hSw; (try dsimp only at hSw); go_simp); (try with_reducible rfl))
            try simp only [Act.put, List.getElem_toArray, List.getElem_cons_succ, List.getElem_cons_zero, List.setIfInBounds_toArray, List.set_cons_zero, List.set_cons_succ]
            refine wpAnyH_take (i := 4) (v := ?v178_4) rfl (by kernel_rfl) (by kernel_rfl) (by kernel_rfl) (fun _ _ _ h => h) (Or.inl ⟨by kernel_rfl, ?y178_4⟩) (by assumption) ?r178_4
            case y178_4 => ((intro w hSw; (try dsimp only at hSw); go_simp); (try with_reducible rfl))
            try simp only [Act.put, List.getElem_toArray, List.getElem_cons_succ, List.getElem_cons_zero, List.setIfInBounds_toArray, List.set_cons_zero, List.set_cons_succ]
            refine wpAnyH_take (i := 5) (v := ?v179_5) rfl (by kernel_rfl) (by kernel_rfl) (by kernel_rfl) (fun _ _ _ h => h) (Or.inl ⟨by kernel_rfl, ?y179_5⟩) (by assumption) ?r179_5
            case y179_5 => ((intro w hSw; (try dsimp only at hSw); go_simp); (try with_reducible rfl))
            try simp only [Act.put, List.getElem_toArray, List.getElem_cons_succ, List.getElem_cons_zero, List.setIfInBounds_toArray, List.set_cons_zero, List.set_cons_succ]
            refine wpAnyH_take (i := 6) (v := ?v180_6) rfl (by kernel_rfl) (by kernel_rfl) (by kernel_rfl) (fun _ _ _ h => h) (Or.inl ⟨by kernel_rfl, ?y180_6⟩) (by assumption) ?r180_6
            case y180_6 => ((intro w hSw; (try dsimp only at hSw); go_simp); (try with_reducible rfl))
            try simp only [Act.put, List.getElem_toArray, List.getElem_cons_succ, List.getElem_cons_zero, List.setIfInBounds_toArray, List.set_cons_zero, List.set_cons_succ]
            refine wpAnyH_take (i := 7) (v := ?v181_7) rfl (by kernel_rfl) (by kernel_rfl) (by kernel_rfl) (fun _ _ _ h => h) (Or.inl ⟨by kernel_rfl, ?y181_7⟩) (by assumption) ?r181_7
            case y181_7 => ((intro w hSw; (try dsimp only at hSw); go_simp); (try with_reducible rfl))
            try simp only [Act.put, List.getElem_toArray, List.getElem_cons_succ, List.getElem_cons_zero, List.setIfInBounds_toArray, List.set_cons_zero, List.set_cons_succ]
            refine wpAnyH_take (i := 8) (v := ?v182_8) rfl (by kernel_rfl) (by kernel_rfl) (by kernel_rfl) (fun _ _ _ h => h) (Or.inl ⟨by kernel_rfl, ?y182_8⟩) (by assumption) ?r182_8
            case y182_8 => ((intro w hSw; (try dsimp only at hSw); go_simp); (try with_reducible rfl))
            try simp only [Act.put, List.getElem_toArray, List.getElem_cons_succ, List.getElem_cons_zero, List.setIfInBounds_toArray, List.set_cons_zero, List.set_cons_succ]
            refine wpAnyH_take (i := 9) (v := ?v183_9) rfl (by kernel_rfl) (by kernel_rfl) (by kernel_rfl) (fun _ _ _ h => h) (Or.inl ⟨by kernel_rfl, ?y183_9⟩) (by assumption) ?r183_9
            case y183_9 => ((intro w hSw; (try dsimp only at hSw); go_simp); (try with_reducible rfl))
            try simp only [Act.put, List.getElem_toArray, List.getElem_cons_succ, List.getElem_cons_zero, List.setIfInBounds_toArray, List.set_cons_zero, List.set_cons_succ]
            refine wpAnyH_take (i := 10) (v := ?v184_10) rfl (by kernel_rfl) (by kernel_rfl) (by kernel_rfl) (fun _ _ _ h => h) (Or.inl ⟨by kernel_rfl, ?y184_10⟩) (by assumption) ?r184_10
            case y184_10 => ((intro w hSw; (try dsimp only at hSw); go_simp); (try with_reducible rfl))
            try simp only [Act.put, List.getElem_toArray, List.getElem_cons_succ, List.getElem_cons_zero, List.setIfInBounds_toArray, List.set_cons_zero, List.set_cons_succ]
            refine wpAnyH_take (i := 11) (v := ?v185_11) rfl (by kernel_rfl) (by kernel_rfl) (by kernel_rfl) (fun _ _ _ h => h) (Or.inl ⟨by kernel_rfl, ?y185_11⟩) (by assumption) ?r185_11
            case y185_11 => ((intro w hSw; (try dsimp only at hSw); go_simp); (try with_reducible rfl))
            try simp only [Act.put, List.getElem_toArray, List.getElem_cons_succ, List.getElem_cons_zero, List.setIfInBounds_toArray, List.set_cons_zero, List.set_cons_succ]
            refine wpAnyH_take (i := 12) (v := ?v186_12) rfl (by kernel_rfl) (by kernel_rfl) (by kernel_rfl) (fun _ _ _ h => h) (Or.inl ⟨by kernel_rfl, ?y186_12⟩) (by assumption) ?r186_12
            case y186_12 => ((intro w hSw; (try dsimp only at hSw); go_simp); (try with_reducible rfl))
            try simp only [Act.put, List.getElem_toArray, List.getElem_cons_succ, List.getElem_cons_zero, List.setIfInBounds_toArray, List.set_cons_zero, List.set_cons_succ]
            refine wpAnyH_take (i := 13) (v := ?v187_13) rfl (by kernel_rfl) (by kernel_rfl) (by kernel_rfl) (fun _ _ _ h => h) (Or.inl ⟨by kernel_rfl, ?y187_13⟩) (by assumption) ?r187_13
            case y187_13 => ((intro w hSw; (try dsimp only at hSw); go_simp); (try with_reducible rfl))
            try simp only [Act.put, List.getElem_toArray, List.getElem_cons_succ, List.getElem_cons_zero, List.setIfInBounds_toArray, List.set_cons_zero, List.set_cons_succ]
            refine wpAnyH_take (i := 14) (v := ?v188_14) rfl (by kernel_rfl) (by kernel_rfl) (by kernel_rfl) (fun _ _ _ h => h) (Or.inl ⟨by kernel_rfl, ?y188_14⟩) (by assumption) ?r188_14
            case y188_14 => ((intro w hSw; (try dsimp only at hSw); go_simp); (try with_reducible rfl))
            try simp only [Act.put, List.getElem_toArray, List.getElem_cons_succ, List.getElem_cons_zero, List.setIfInBounds_toArray, List.set_cons_zero, List.set_cons_succ]
            refine wpAnyH_take (i := 15) (v := ?v189_15) rfl (by kernel_rfl) (by kernel_rfl) (by kernel_rfl) (fun _ _ _ h => h) (Or.inl ⟨by kernel_rfl, ?y189_15⟩) (by assumption) ?r189_15
            case y189_15 => ((intro w hSw; (try dsimp only at hSw); go_simp); (try with_reducible rfl))
            try simp only [Act.put, List.getElem_toArray, List.getElem_cons_succ, List.getElem_cons_zero, List.setIfInBounds_toArray, List.set_cons_zero, List.set_cons_succ]
            refine wpAnyH_take (i := 16) (v := ?v190_16) rfl (by kernel_rfl) (by kernel_rfl) (by kernel_rfl) (fun _ _ _ h => h) (Or.inl ⟨by kernel_rfl, ?y190_16⟩) (by assumption) ?r190_16
            case y190_16 => ((intro w hSw; (try dsimp only at hSw); go_simp); (try with_reducible rfl))
            try simp only [Act.put, List.getElem_toArray, List.getElem_cons_succ, List.getElem_cons_zero, List.setIfInBounds_toArray, List.set_cons_zero, List.set_cons_succ]
            refine wpAnyH_take (i := 17) (v := ?v191_17) rfl (by kernel_rfl) (by kernel_rfl) (by kernel_rfl) (fun _ _ _ h => h) (Or.inl ⟨by kernel_rfl, ?y191_17⟩) (by assumption) ?r191_17
            case y191_17 => ((intro w hSw; (try dsimp only at hSw); go_simp); (try with_reducible rfl))
            try simp only [Act.put, List.getElem_toArray, List.getElem_cons_succ, List.getElem_cons_zero, List.setIfInBounds_toArray, List.set_cons_zero, List.set_cons_succ]
            refine wpAnyH_take (i := 18) (v := ?v192_18) rfl (by kernel_rfl) (by kernel_rfl) (by kernel_rfl) (fun _ _ _ h => h) (Or.inl ⟨by kernel_rfl, ?y192_18⟩) (by assumption) ?r192_18
            case y192_18 => ((intro w hSw; (try dsimp only at hSw); go_simp); (try with_reducible rfl))
            try simp only [Act.put, List.getElem_toArray, List.getElem_cons_succ, List.getElem_cons_zero, List.setIfInBounds_toArray, List.set_cons_zero, List.set_cons_succ]
            refine wpAnyH_take (i := 19) (v := ?v193_19) rfl (by kernel_rfl) (by kernel_rfl) (by kernel_rfl) (fun _ _ _ h => h) (Or.inl ⟨by kernel_rfl, ?y193_19⟩) (by assumption) ?r193_19
            case y193_19 => ((intro w hSw; (try dsimp only at hSw); go_simp); (try with_reducible rfl))
            try simp only [Act.put, List.getElem_toArray, List.getElem_cons_succ, List.getElem_cons_zero, List.setIfInBounds_toArray, List.set_cons_zero, List.set_cons_succ]
            refine wpAnyH_take (i := 20) (v := ?v194_20) rfl (by kernel_rfl) (by kernel_rfl) (by kernel_rfl) (fun _ _ _ h => h) (Or.inl ⟨by kernel_rfl, ?y194_20⟩) (by assumption) ?r194_20
            case y194_20 => ((intro w hSw; (try dsimp only at hSw); go_simp); (try with_reducible rfl))
            try simp only [Act.put, List.getElem_toArray, List.getElem_cons_succ, List.getElem_cons_zero, List.setIfInBounds_toArray, List.set_cons_zero, List.set_cons_succ]
            refine wpAnyH_take (i := 21) (v := ?v195_21) rfl (by kernel_rfl) (by kernel_rfl) (by kernel_rfl) (fun _ _ _ h => h) (Or.inl ⟨by kernel_rfl, ?y195_21⟩) (by assumption) ?r195_21
            case y195_21 => ((intro w hSw; (try dsimp only at hSw); go_simp); (try with_reducible rfl))
            try simp only [Act.put, List.getElem_toArray, List.getElem_cons_succ, List.getElem_cons_zero, List.setIfInBounds_toArray, List.set_cons_zero, List.set_cons_succ]
            refine wpAnyH_take (i := 22) (v := ?v196_22) rfl (by kernel_rfl) (by kernel_rfl) (by kernel_rfl) (fun _ _ _ h => h) (Or.inl ⟨by kernel_rfl, ?y196_22⟩) (by assumption) ?r196_22
            case y196_22 => ((intro w hSw; (try dsimp only at hSw); go_simp); (try with_reducible rfl))
            try simp only [Act.put, List.getElem_toArray, List.getElem_cons_succ, List.getElem_cons_zero, List.setIfInBounds_toArray, List.set_cons_zero, List.set_cons_succ]
            refine wpAnyH_ready (rs := [23]) (by kernel_rfl) (by simp) ?_
            refine AllReadyH.cons rfl (fun K hK => ?_) AllReadyH.nil
            simp only [List.getElem_toArray, List.getElem_cons_succ, List.getElem_cons_zero]
            go_simp
            skip
            refine hK.out _ _ ?_ ?_
            · ((try dsimp only); simp [go_sem, hb, c1, c2, c3, c4])
            clear hK K hHeld
            intro hHeld
            try simp only [Act.put, List.getElem_toArray, List.getElem_cons_succ, List.getElem_cons_zero, List.setIfInBounds_toArray, List.set_cons_zero, List.set_cons_succ]
            refine wpAnyH_ready (rs := [24]) (by kernel_rfl) (by simp) ?_
            refine AllReadyH.cons rfl (fun K hK => ?_) AllReadyH.nil
            simp only [List.getElem_toArray, List.getElem_cons_succ, List.getElem_cons_zero]
            go_simp
            (go_at_call 69; (with_reducible refine (HWI.out _ _ ?hi69f5).mono ?hm69f5); (case hi69f5 => exact told_at3 (by simp) x2 x3 x4); rintro e w' ⟨rfl, rfl⟩)
            refine hK.out _ _ ?_ ?_
            · ((try dsimp only); simp [go_sem, hb, c1, c2, c3, c4])
            clear hK K hHeld
            intro hHeld
            try simp only [Act.put, List.getElem_toArray, List.getElem_cons_succ, List.getElem_cons_zero, List.setIfInBounds_toArray, List.set_cons_zero, List.set_cons_succ]
            refine wpAnyH_take (i := 25) (v := ?v199_25) rfl (by kernel_rfl) (by kernel_rfl) (by kernel_rfl) (fun _ _ _ h => h) (Or.inl ⟨by kernel_rfl, ?y199_25⟩) (by assumption) ?r199_25
            case y199_25 => ((intro w hSw; (try dsimp only at hSw); go_simp); (try with_reducible rfl))
            try simp only [Act.put, List.getElem_toArray, List.getElem_cons_succ, List.getElem_cons_zero, List.setIfInBounds_toArray, List.set_cons_zero, List.set_cons_succ]
            refine wpAnyH_take (i := 26) (v := ?v200_26) rfl (by kernel_rfl) (by kernel_rfl) (by kernel_rfl) (fun _ _ _ h => h) (Or.inl ⟨by kernel_rfl, ?y200_26⟩) (by assumption) ?r200_26
            case y200_26 => ((intro w hSw; (try dsimp only at hSw); go_simp); (try with_reducible rfl))
            try simp only [Act.put, List.getElem_toArray, List.getElem_cons_succ, List.getElem_cons_zero, List.setIfInBounds_toArray, List.set_cons_zero, List.set_cons_succ]
            refine wpAnyH_done (by kernel_rfl) ?_ _
            clear hHeld
            go_wp2_with fail
            refine wp_region_grow (by kernel_rfl) (by kernel_rfl) ?_
            repeat (first | go_big_quiet_step ((fail)) | quiet_step ((fail)))
            refine wpQuiet_nil ?_
            rintro _ ⟨g165, rfl⟩
            go_wp2_with fail
            go_returns
            exact ⟨by rw [HA.out]; rfl, (by repeat' (first | (with_reducible exact Grows.refl _) | (with_reducible refine Grows.alloc ?_ _) | (with_reducible refine Grows.drew ?_) | (with_reducible refine Grows.ext ?_ _ _)))⟩
        · have e4 : (x0 == 4) = false := by simpa using h4
          have e5 : decide (whichV x0 ≥ 0) = true := by simpa using hw
          have e6 : (x1 == 2) = false := by simpa using h5
          have HA := Lib.hid (show aloneR [x0, x1, x2, x3, x4] = (noPen, false) by simp [aloneR, h5])
          clear hm
          go_enter Tryd.func72, Tryd.ntmps72
          go_wp2_with (first | (go_at_call 68; (with_reducible refine (which_any _ _).mono ?_); rintro e w' ⟨rfl, h2, d2, rfl⟩) | (go_at_call 36; (with_reducible refine (pen36_any _ _ _).mono ?_); rintro e w' ⟨rfl, h3, d3, rfl⟩) | (go_at_call 70; (with_reducible refine (col70_any _ _ _ _).mono ?_); rintro e w' ⟨rfl, h4, d4, rfl⟩))
          refine wp_region_grow (by kernel_rfl) (by kernel_rfl) ?_
          repeat (first | go_big_quiet_step ((fail)) | quiet_step ((fail)))
          refine wpQuiet_nil ?_
          rintro _ ⟨g172, rfl⟩
          go_wp2_with fail
          refine wp_region_grow (by kernel_rfl) (by kernel_rfl) ?_
          repeat (first | go_big_quiet_step ((fail)) | quiet_step ((fail)))
          refine wpQuiet_nil ?_
          rintro _ ⟨g173, rfl⟩
          go_wp2_with fail
          go_returns
          exact ⟨by rw [HA.out]; rfl, (by repeat' (first | (with_reducible exact Grows.refl _) | (with_reducible refine Grows.alloc ?_ _) | (with_reducible refine Grows.drew ?_) | (with_reducible refine Grows.ext ?_ _ _)))⟩
      · have e4 : (x0 == 4) = false := by simpa using h4
        have e5 : decide (whichV x0 ≥ 0) = false := by simpa using hw
        have HA := Lib.hid (show aloneR [x0, x1, x2, x3, x4] = (noPen, false) by simp [aloneR, hm, hw])
        clear hm
        go_enter Tryd.func72, Tryd.ntmps72
        go_wp2_with (first | (go_at_call 68; (with_reducible refine (which_any _ _).mono ?_); rintro e w' ⟨rfl, h2, d2, rfl⟩) | (go_at_call 36; (with_reducible refine (pen36_any _ _ _).mono ?_); rintro e w' ⟨rfl, h3, d3, rfl⟩) | (go_at_call 70; (with_reducible refine (col70_any _ _ _ _).mono ?_); rintro e w' ⟨rfl, h4, d4, rfl⟩))
        refine wp_region_grow (by kernel_rfl) (by kernel_rfl) ?_
        repeat (first | go_big_quiet_step ((fail)) | quiet_step ((fail)))
        refine wpQuiet_nil ?_
        rintro _ ⟨g168, rfl⟩
        go_wp2_with fail
        refine wp_region_grow (by kernel_rfl) (by kernel_rfl) ?_
        repeat (first | go_big_quiet_step ((fail)) | quiet_step ((fail)))
        refine wpQuiet_nil ?_
        rintro _ ⟨g169, rfl⟩
        go_wp2_with fail
        go_returns
        exact ⟨by rw [HA.out]; rfl, (by repeat' (first | (with_reducible exact Grows.refl _) | (with_reducible refine Grows.alloc ?_ _) | (with_reducible refine Grows.drew ?_) | (with_reducible refine Grows.ext ?_ _ _)))⟩
  · have hw0 : whichV 0 = -1 := by decide
    have HA := Lib.hid (show aloneR [x0, x1, x2, x3, x4] = (noPen, false) by simp [aloneR, show max 0 x0 = 0 by omega, hw0])
    go_enter Tryd.func72, Tryd.ntmps72
    go_wp2_with (first | (go_at_call 68; (with_reducible refine (which_any _ _).mono ?_); rintro e w' ⟨rfl, h2, d2, rfl⟩) | (go_at_call 36; (with_reducible refine (pen36_any _ _ _).mono ?_); rintro e w' ⟨rfl, h3, d3, rfl⟩) | (go_at_call 70; (with_reducible refine (col70_any _ _ _ _).mono ?_); rintro e w' ⟨rfl, h4, d4, rfl⟩))
    refine wp_region_grow (by kernel_rfl) (by kernel_rfl) ?_
    repeat (first | go_big_quiet_step ((fail)) | quiet_step ((fail)))
    refine wpQuiet_nil ?_
    rintro _ ⟨g170, rfl⟩
    go_wp2_with fail
    refine wp_region_grow (by kernel_rfl) (by kernel_rfl) ?_
    repeat (first | go_big_quiet_step ((fail)) | quiet_step ((fail)))
    refine wpQuiet_nil ?_
    rintro _ ⟨g171, rfl⟩
    go_wp2_with fail
    go_returns
    exact ⟨by rw [HA.out]; rfl, (by repeat' (first | (with_reducible exact Grows.refl _) | (with_reducible refine Grows.alloc ?_ _) | (with_reducible refine Grows.drew ?_) | (with_reducible refine Grows.ext ?_ _ _)))⟩
set_option maxRecDepth 100000 in
set_option maxHeartbeats 8000000 in
theorem alone_six (s : Value) (x0 x1 x2 x3 x4 x5 : Int) (hr0 : -1 ≤ x0 ∧ x0 ≤ 9999) (hr1 : -1 ≤ x1 ∧ x1 ≤ 9999) (_hr2 : -1 ≤ x2 ∧ x2 ≤ 9999) (_hr3 : -1 ≤ x3 ∧ x3 ≤ 9999) (_hr4 : -1 ≤ x4 ∧ x4 ≤ 9999) (_hr5 : -1 ≤ x5 ∧ x5 ≤ 9999) (w : World) (h : IntsAt w s [x0, x1, x2, x3, x4, x5]) : Calls Tryd.prog 72 #[.agg #[s]] w (Ret (.tuple #[.agg (ansC (aloneR [x0, x1, x2, x3, x4, x5])), .bool (aloneR [x0, x1, x2, x3, x4, x5]).2]) w) := by
  obtain ⟨a, cap, rfl, hcap, hin⟩ := h
  obtain ⟨b, off, rfl, hb, hc⟩ := hin (by simp)
  have c0 := hc 0 (by simp)
  have c1 := hc 1 (by simp)
  have c2 := hc 2 (by simp)
  have c3 := hc 3 (by simp)
  have c4 := hc 4 (by simp)
  have c5 := hc 5 (by simp)
  simp only [List.getElem?_cons_zero, List.getElem?_cons_succ, Option.getD_some, Nat.add_zero] at c0 c1 c2 c3 c4 c5
  clear hin hc
  by_cases hx : 0 < x0
  · have hm : max 0 x0 = x0 := by omega
    by_cases h4 : x0 = 4
    · subst h4
      have hw4 : whichV 4 = -1 := by decide
      have HA := Lib.hid (show aloneR [4, x1, x2, x3, x4, x5] = (noPen, false) by simp [aloneR, m04, hw4])
      clear hm
      go_enter Tryd.func72, Tryd.ntmps72
      go_wp2_with (first | (go_at_call 68; (with_reducible refine (which_any _ _).mono ?_); rintro e w' ⟨rfl, h2, d2, rfl⟩) | (go_at_call 36; (with_reducible refine (pen36_any _ _ _).mono ?_); rintro e w' ⟨rfl, h3, d3, rfl⟩) | (go_at_call 70; (with_reducible refine (col70_any _ _ _ _).mono ?_); rintro e w' ⟨rfl, h4, d4, rfl⟩))
      refine wp_region_grow (by kernel_rfl) (by kernel_rfl) ?_
      repeat (first | go_big_quiet_step ((fail)) | quiet_step ((fail)))
      refine wpQuiet_nil ?_
      rintro _ ⟨g175, rfl⟩
      go_wp2_with fail
      refine wp_region_grow (by kernel_rfl) (by kernel_rfl) ?_
      repeat (first | go_big_quiet_step ((fail)) | quiet_step ((fail)))
      refine wpQuiet_nil ?_
      rintro _ ⟨g176, rfl⟩
      go_wp2_with fail
      go_returns
      exact ⟨by rw [HA.out]; rfl, (by repeat' (first | (with_reducible exact Grows.refl _) | (with_reducible refine Grows.alloc ?_ _) | (with_reducible refine Grows.drew ?_) | (with_reducible refine Grows.ext ?_ _ _)))⟩
    · by_cases hw : 0 ≤ whichV x0
      · by_cases h5 : x1 = 2
        · subst h5
          cases hwi : withinL [x3, x4, x5] with
          | true =>
            rw [show aloneR [x0, 2, x2, x3, x4, x5] = (rgbP (whichV x0) x3 x4 x5, true) by simp [aloneR, hm, h4, hw, hwi]]
            exact alone_six2 none cap b off x0 x2 x3 x4 x5 hx hr0.2 h4 hw w hb (by simpa using hcap) c0 c1 c2 c3 c4 c5 hwi
          | false =>
            have HWI := Lib.hid fun v W (h : IntsAt W v [x3, x4, x5]) => rwithin_any v [x3, x4, x5] (by simp) W h
            rw [hwi] at HWI
            have e4 : (x0 == 4) = false := by simpa using h4
            have e5 : decide (whichV x0 ≥ 0) = true := by simpa using hw
            have HA := Lib.hid (show aloneR [x0, 2, x2, x3, x4, x5] = (noPen, false) by simp [aloneR, hm, hwi])
            clear hm hwi h4
            go_enter Tryd.func72, Tryd.ntmps72
            go_wp2_with (first | (go_at_call 68; (with_reducible refine (which_any _ _).mono ?_); rintro e w' ⟨rfl, h2, d2, rfl⟩))
            refine wp_region_grow (by kernel_rfl) (by kernel_rfl) ?_
            repeat (first | go_big_quiet_step ((fail)) | quiet_step ((fail)))
            refine wpQuiet_nil ?_
            rintro _ ⟨g174, rfl⟩
            go_wp2_with fail
            refine wp_region_held_drew (S := fun w' => w'.cell? ⟨b, off + 1, none⟩ = some (.int .i64 2) ∧ w'.cell? ⟨b, off + 2, none⟩ = some (.int .i64 x2) ∧ w'.cell? ⟨b, off + 3, none⟩ = some (.int .i64 x3) ∧ w'.cell? ⟨b, off + 4, none⟩ = some (.int .i64 x4) ∧ w'.cell? ⟨b, off + 5, none⟩ = some (.int .i64 x5)) (by kernel_rfl) ?_ (fun hHeld => ?_)
            · (simp [go_sem, hb, c1, c2, c3, c4, c5])
            refine wpAnyH_take (i := 0) (v := ?v201_0) rfl (by kernel_rfl) (by kernel_rfl) (by kernel_rfl) (fun _ _ _ h => h) (Or.inl ⟨by kernel_rfl, ?y201_0⟩) (by assumption) ?r201_0
            case y201_0 => ((intro w hSw; (try dsimp only at hSw); go_simp); (try with_reducible rfl))
            try simp only [Act.put, List.getElem_toArray, List.getElem_cons_zero, List.setIfInBounds_toArray, List.set_cons_zero, List.set_cons_succ]
            refine wpAnyH_take (i := 1) (v := ?v202_1) rfl (by kernel_rfl) (by kernel_rfl) (by kernel_rfl) (fun _ _ _ h => h) (Or.inl ⟨by kernel_rfl, ?y202_1⟩) (by assumption) ?r202_1
            case y202_1 => ((intro w hSw; (try dsimp only at hSw); go_simp); (try with_reducible rfl))
            try simp only [Act.put, List.getElem_toArray, List.getElem_cons_succ, List.getElem_cons_zero, List.setIfInBounds_toArray, List.set_cons_zero, List.set_cons_succ]
            refine wpAnyH_take (i := 2) (v := ?v203_2) rfl (by kernel_rfl) (by kernel_rfl) (by kernel_rfl) (fun _ _ _ h => h) (Or.inl ⟨by kernel_rfl, ?y203_2⟩) (by assumption) ?r203_2
            case y203_2 => ((intro w hSw; (try dsimp only at hSw); go_simp); (try with_reducible rfl))
            try simp only [Act.put, List.getElem_toArray, List.getElem_cons_succ, List.getElem_cons_zero, List.setIfInBounds_toArray, List.set_cons_zero, List.set_cons_succ]
            refine wpAnyH_take (i := 3) (v := ?v204_3) rfl (by kernel_rfl) (by kernel_rfl) (by kernel_rfl) (fun _ _ _ h => h) (Or.inl ⟨by kernel_rfl, ?y204_3⟩) (by assumption) ?r204_3
            case y204_3 => ((intro w hSw; (try dsimp only at hSw); go_simp); (try with_reducible rfl))
            try simp only [Act.put, List.getElem_toArray, List.getElem_cons_succ, List.getElem_cons_zero, List.setIfInBounds_toArray, List.set_cons_zero, List.set_cons_succ]
            refine wpAnyH_take (i := 4) (v := ?v205_4) rfl (by kernel_rfl) (by kernel_rfl) (by kernel_rfl) (fun _ _ _ h => h) (Or.inl ⟨by kernel_rfl, ?y205_4⟩) (by assumption) ?r205_4
            case y205_4 => ((intro w hSw; (try dsimp only at hSw); go_simp); (try with_reducible rfl))
            try simp only [Act.put, List.getElem_toArray, List.getElem_cons_succ, List.getElem_cons_zero, List.setIfInBounds_toArray, List.set_cons_zero, List.set_cons_succ]
            refine wpAnyH_take (i := 5) (v := ?v206_5) rfl (by kernel_rfl) (by kernel_rfl) (by kernel_rfl) (fun _ _ _ h => h) (Or.inl ⟨by kernel_rfl, ?y206_5⟩) (by assumption) ?r206_5
            case y206_5 => ((intro w hSw; (try dsimp only at hSw); go_simp); (try with_reducible rfl))
            try simp only [Act.put, List.getElem_toArray, List.getElem_cons_succ, List.getElem_cons_zero, List.setIfInBounds_toArray, List.set_cons_zero, List.set_cons_succ]
            refine wpAnyH_take (i := 6) (v := ?v207_6) rfl (by kernel_rfl) (by kernel_rfl) (by kernel_rfl) (fun _ _ _ h => h) (Or.inl ⟨by kernel_rfl, ?y207_6⟩) (by assumption) ?r207_6
            case y207_6 => ((intro w hSw; (try dsimp only at hSw); go_simp); (try with_reducible rfl))
            try simp only [Act.put, List.getElem_toArray, List.getElem_cons_succ, List.getElem_cons_zero, List.setIfInBounds_toArray, List.set_cons_zero, List.set_cons_succ]
            refine wpAnyH_take (i := 7) (v := ?v208_7) rfl (by kernel_rfl) (by kernel_rfl) (by kernel_rfl) (fun _ _ _ h => h) (Or.inl ⟨by kernel_rfl, ?y208_7⟩) (by assumption) ?r208_7
            case y208_7 => ((intro w hSw; (try dsimp only at hSw); go_simp); (try with_reducible rfl))
            try simp only [Act.put, List.getElem_toArray, List.getElem_cons_succ, List.getElem_cons_zero, List.setIfInBounds_toArray, List.set_cons_zero, List.set_cons_succ]
            refine wpAnyH_take (i := 8) (v := ?v209_8) rfl (by kernel_rfl) (by kernel_rfl) (by kernel_rfl) (fun _ _ _ h => h) (Or.inl ⟨by kernel_rfl, ?y209_8⟩) (by assumption) ?r209_8
            case y209_8 => ((intro w hSw; (try dsimp only at hSw); go_simp); (try with_reducible rfl))
            try simp only [Act.put, List.getElem_toArray, List.getElem_cons_succ, List.getElem_cons_zero, List.setIfInBounds_toArray, List.set_cons_zero, List.set_cons_succ]
            refine wpAnyH_take (i := 9) (v := ?v210_9) rfl (by kernel_rfl) (by kernel_rfl) (by kernel_rfl) (fun _ _ _ h => h) (Or.inl ⟨by kernel_rfl, ?y210_9⟩) (by assumption) ?r210_9
            case y210_9 => ((intro w hSw; (try dsimp only at hSw); go_simp); (try with_reducible rfl))
            try simp only [Act.put, List.getElem_toArray, List.getElem_cons_succ, List.getElem_cons_zero, List.setIfInBounds_toArray, List.set_cons_zero, List.set_cons_succ]
            refine wpAnyH_take (i := 10) (v := ?v211_10) rfl (by kernel_rfl) (by kernel_rfl) (by kernel_rfl) (fun _ _ _ h => h) (Or.inl ⟨by kernel_rfl, ?y211_10⟩) (by assumption) ?r211_10
            case y211_10 => ((intro w hSw; (try dsimp only at hSw); go_simp); (try with_reducible rfl))
            try simp only [Act.put, List.getElem_toArray, List.getElem_cons_succ, List.getElem_cons_zero, List.setIfInBounds_toArray, List.set_cons_zero, List.set_cons_succ]
            refine wpAnyH_take (i := 11) (v := ?v212_11) rfl (by kernel_rfl) (by kernel_rfl) (by kernel_rfl) (fun _ _ _ h => h) (Or.inl ⟨by kernel_rfl, ?y212_11⟩) (by assumption) ?r212_11
            case y212_11 => ((intro w hSw; (try dsimp only at hSw); go_simp); (try with_reducible rfl))
            try simp only [Act.put, List.getElem_toArray, List.getElem_cons_succ, List.getElem_cons_zero, List.setIfInBounds_toArray, List.set_cons_zero, List.set_cons_succ]
            refine wpAnyH_take (i := 12) (v := ?v213_12) rfl (by kernel_rfl) (by kernel_rfl) (by kernel_rfl) (fun _ _ _ h => h) (Or.inl ⟨by kernel_rfl, ?y213_12⟩) (by assumption) ?r213_12
            case y213_12 => ((intro w hSw; (try dsimp only at hSw); go_simp); (try with_reducible rfl))
            try simp only [Act.put, List.getElem_toArray, List.getElem_cons_succ, List.getElem_cons_zero, List.setIfInBounds_toArray, List.set_cons_zero, List.set_cons_succ]
            refine wpAnyH_take (i := 13) (v := ?v214_13) rfl (by kernel_rfl) (by kernel_rfl) (by kernel_rfl) (fun _ _ _ h => h) (Or.inl ⟨by kernel_rfl, ?y214_13⟩) (by assumption) ?r214_13
            case y214_13 => ((intro w hSw; (try dsimp only at hSw); go_simp); (try with_reducible rfl))
            try simp only [Act.put, List.getElem_toArray, List.getElem_cons_succ, List.getElem_cons_zero, List.setIfInBounds_toArray, List.set_cons_zero, List.set_cons_succ]
            refine wpAnyH_take (i := 14) (v := ?v215_14) rfl (by kernel_rfl) (by kernel_rfl) (by kernel_rfl) (fun _ _ _ h => h) (Or.inl ⟨by kernel_rfl, ?y215_14⟩) (by assumption) ?r215_14
            case y215_14 => ((intro w hSw; (try dsimp only at hSw); go_simp); (try with_reducible rfl))
            try simp only [Act.put, List.getElem_toArray, List.getElem_cons_succ, List.getElem_cons_zero, List.setIfInBounds_toArray, List.set_cons_zero, List.set_cons_succ]
            refine wpAnyH_take (i := 15) (v := ?v216_15) rfl (by kernel_rfl) (by kernel_rfl) (by kernel_rfl) (fun _ _ _ h => h) (Or.inl ⟨by kernel_rfl, ?y216_15⟩) (by assumption) ?r216_15
            case y216_15 => ((intro w hSw; (try dsimp only at hSw); go_simp); (try with_reducible rfl))
            try simp only [Act.put, List.getElem_toArray, List.getElem_cons_succ, List.getElem_cons_zero, List.setIfInBounds_toArray, List.set_cons_zero, List.set_cons_succ]
            refine wpAnyH_take (i := 16) (v := ?v217_16) rfl (by kernel_rfl) (by kernel_rfl) (by kernel_rfl) (fun _ _ _ h => h) (Or.inl ⟨by kernel_rfl, ?y217_16⟩) (by assumption) ?r217_16
            case y217_16 => ((intro w hSw; (try dsimp only at hSw); go_simp); (try with_reducible rfl))
            try simp only [Act.put, List.getElem_toArray, List.getElem_cons_succ, List.getElem_cons_zero, List.setIfInBounds_toArray, List.set_cons_zero, List.set_cons_succ]
            refine wpAnyH_take (i := 17) (v := ?v218_17) rfl (by kernel_rfl) (by kernel_rfl) (by kernel_rfl) (fun _ _ _ h => h) (Or.inl ⟨by kernel_rfl, ?y218_17⟩) (by assumption) ?r218_17
            case y218_17 => ((intro w hSw; (try dsimp only at hSw); go_simp); (try with_reducible rfl))
            try simp only [Act.put, List.getElem_toArray, List.getElem_cons_succ, List.getElem_cons_zero, List.setIfInBounds_toArray, List.set_cons_zero, List.set_cons_succ]
            refine wpAnyH_take (i := 18) (v := ?v219_18) rfl (by kernel_rfl) (by kernel_rfl) (by kernel_rfl) (fun _ _ _ h => h) (Or.inl ⟨by kernel_rfl, ?y219_18⟩) (by assumption) ?r219_18
            case y219_18 => ((intro w hSw; (try dsimp only at hSw); go_simp); (try with_reducible rfl))
            try simp only [Act.put, List.getElem_toArray, List.getElem_cons_succ, List.getElem_cons_zero, List.setIfInBounds_toArray, List.set_cons_zero, List.set_cons_succ]
            refine wpAnyH_take (i := 19) (v := ?v220_19) rfl (by kernel_rfl) (by kernel_rfl) (by kernel_rfl) (fun _ _ _ h => h) (Or.inl ⟨by kernel_rfl, ?y220_19⟩) (by assumption) ?r220_19
            case y220_19 => ((intro w hSw; (try dsimp only at hSw); go_simp); (try with_reducible rfl))
            try simp only [Act.put, List.getElem_toArray, List.getElem_cons_succ, List.getElem_cons_zero, List.setIfInBounds_toArray, List.set_cons_zero, List.set_cons_succ]
            refine wpAnyH_take (i := 20) (v := ?v221_20) rfl (by kernel_rfl) (by kernel_rfl) (by kernel_rfl) (fun _ _ _ h => h) (Or.inl ⟨by kernel_rfl, ?y221_20⟩) (by assumption) ?r221_20
            case y221_20 => ((intro w hSw; (try dsimp only at hSw); go_simp); (try with_reducible rfl))
            try simp only [Act.put, List.getElem_toArray, List.getElem_cons_succ, List.getElem_cons_zero, List.setIfInBounds_toArray, List.set_cons_zero, List.set_cons_succ]
            refine wpAnyH_take (i := 21) (v := ?v222_21) rfl (by kernel_rfl) (by kernel_rfl) (by kernel_rfl) (fun _ _ _ h => h) (Or.inl ⟨by kernel_rfl, ?y222_21⟩) (by assumption) ?r222_21
            case y222_21 => ((intro w hSw; (try dsimp only at hSw); go_simp); (try with_reducible rfl))
            try simp only [Act.put, List.getElem_toArray, List.getElem_cons_succ, List.getElem_cons_zero, List.setIfInBounds_toArray, List.set_cons_zero, List.set_cons_succ]
            refine wpAnyH_take (i := 22) (v := ?v223_22) rfl (by kernel_rfl) (by kernel_rfl) (by kernel_rfl) (fun _ _ _ h => h) (Or.inl ⟨by kernel_rfl, ?y223_22⟩) (by assumption) ?r223_22
            case y223_22 => ((intro w hSw; (try dsimp only at hSw); go_simp); (try with_reducible rfl))
            try simp only [Act.put, List.getElem_toArray, List.getElem_cons_succ, List.getElem_cons_zero, List.setIfInBounds_toArray, List.set_cons_zero, List.set_cons_succ]
            refine wpAnyH_ready (rs := [23]) (by kernel_rfl) (by simp) ?_
            refine AllReadyH.cons rfl (fun K hK => ?_) AllReadyH.nil
            simp only [List.getElem_toArray, List.getElem_cons_succ, List.getElem_cons_zero]
            go_simp
            skip
            refine hK.out _ _ ?_ ?_
            · ((try dsimp only); simp [go_sem, hb, c1, c2, c3, c4, c5])
            clear hK K hHeld
            intro hHeld
            try simp only [Act.put, List.getElem_toArray, List.getElem_cons_succ, List.getElem_cons_zero, List.setIfInBounds_toArray, List.set_cons_zero, List.set_cons_succ]
            refine wpAnyH_ready (rs := [24]) (by kernel_rfl) (by simp) ?_
            refine AllReadyH.cons rfl (fun K hK => ?_) AllReadyH.nil
            simp only [List.getElem_toArray, List.getElem_cons_succ, List.getElem_cons_zero]
            go_simp
            (go_at_call 69; (with_reducible refine (HWI.out _ _ ?hi69f6).mono ?hm69f6); (case hi69f6 => exact told_at3 (by simp) x3 x4 x5); rintro e w' ⟨rfl, rfl⟩)
            refine hK.out _ _ ?_ ?_
            · ((try dsimp only); simp [go_sem, hb, c1, c2, c3, c4, c5])
            clear hK K hHeld
            intro hHeld
            try simp only [Act.put, List.getElem_toArray, List.getElem_cons_succ, List.getElem_cons_zero, List.setIfInBounds_toArray, List.set_cons_zero, List.set_cons_succ]
            refine wpAnyH_take (i := 25) (v := ?v226_25) rfl (by kernel_rfl) (by kernel_rfl) (by kernel_rfl) (fun _ _ _ h => h) (Or.inl ⟨by kernel_rfl, ?y226_25⟩) (by assumption) ?r226_25
            case y226_25 => ((intro w hSw; (try dsimp only at hSw); go_simp); (try with_reducible rfl))
            try simp only [Act.put, List.getElem_toArray, List.getElem_cons_succ, List.getElem_cons_zero, List.setIfInBounds_toArray, List.set_cons_zero, List.set_cons_succ]
            refine wpAnyH_take (i := 26) (v := ?v227_26) rfl (by kernel_rfl) (by kernel_rfl) (by kernel_rfl) (fun _ _ _ h => h) (Or.inl ⟨by kernel_rfl, ?y227_26⟩) (by assumption) ?r227_26
            case y227_26 => ((intro w hSw; (try dsimp only at hSw); go_simp); (try with_reducible rfl))
            try simp only [Act.put, List.getElem_toArray, List.getElem_cons_succ, List.getElem_cons_zero, List.setIfInBounds_toArray, List.set_cons_zero, List.set_cons_succ]
            refine wpAnyH_done (by kernel_rfl) ?_ _
            clear hHeld
            go_wp2_with fail
            go_returns
            exact ⟨by rw [HA.out]; rfl, (by repeat' (first | (with_reducible exact Grows.refl _) | (with_reducible refine Grows.alloc ?_ _) | (with_reducible refine Grows.drew ?_) | (with_reducible refine Grows.ext ?_ _ _)))⟩
        · have e4 : (x0 == 4) = false := by simpa using h4
          have e5 : decide (whichV x0 ≥ 0) = true := by simpa using hw
          have e6 : (x1 == 2) = false := by simpa using h5
          have HA := Lib.hid (show aloneR [x0, x1, x2, x3, x4, x5] = (noPen, false) by simp [aloneR, h5])
          clear hm
          go_enter Tryd.func72, Tryd.ntmps72
          go_wp2_with (first | (go_at_call 68; (with_reducible refine (which_any _ _).mono ?_); rintro e w' ⟨rfl, h2, d2, rfl⟩) | (go_at_call 36; (with_reducible refine (pen36_any _ _ _).mono ?_); rintro e w' ⟨rfl, h3, d3, rfl⟩) | (go_at_call 70; (with_reducible refine (col70_any _ _ _ _).mono ?_); rintro e w' ⟨rfl, h4, d4, rfl⟩))
          refine wp_region_grow (by kernel_rfl) (by kernel_rfl) ?_
          repeat (first | go_big_quiet_step ((fail)) | quiet_step ((fail)))
          refine wpQuiet_nil ?_
          rintro _ ⟨g181, rfl⟩
          go_wp2_with fail
          refine wp_region_grow (by kernel_rfl) (by kernel_rfl) ?_
          repeat (first | go_big_quiet_step ((fail)) | quiet_step ((fail)))
          refine wpQuiet_nil ?_
          rintro _ ⟨g182, rfl⟩
          go_wp2_with fail
          go_returns
          exact ⟨by rw [HA.out]; rfl, (by repeat' (first | (with_reducible exact Grows.refl _) | (with_reducible refine Grows.alloc ?_ _) | (with_reducible refine Grows.drew ?_) | (with_reducible refine Grows.ext ?_ _ _)))⟩
      · have e4 : (x0 == 4) = false := by simpa using h4
        have e5 : decide (whichV x0 ≥ 0) = false := by simpa using hw
        have HA := Lib.hid (show aloneR [x0, x1, x2, x3, x4, x5] = (noPen, false) by simp [aloneR, hm, hw])
        clear hm
        go_enter Tryd.func72, Tryd.ntmps72
        go_wp2_with (first | (go_at_call 68; (with_reducible refine (which_any _ _).mono ?_); rintro e w' ⟨rfl, h2, d2, rfl⟩) | (go_at_call 36; (with_reducible refine (pen36_any _ _ _).mono ?_); rintro e w' ⟨rfl, h3, d3, rfl⟩) | (go_at_call 70; (with_reducible refine (col70_any _ _ _ _).mono ?_); rintro e w' ⟨rfl, h4, d4, rfl⟩))
        refine wp_region_grow (by kernel_rfl) (by kernel_rfl) ?_
        repeat (first | go_big_quiet_step ((fail)) | quiet_step ((fail)))
        refine wpQuiet_nil ?_
        rintro _ ⟨g177, rfl⟩
        go_wp2_with fail
        refine wp_region_grow (by kernel_rfl) (by kernel_rfl) ?_
        repeat (first | go_big_quiet_step ((fail)) | quiet_step ((fail)))
        refine wpQuiet_nil ?_
        rintro _ ⟨g178, rfl⟩
        go_wp2_with fail
        go_returns
        exact ⟨by rw [HA.out]; rfl, (by repeat' (first | (with_reducible exact Grows.refl _) | (with_reducible refine Grows.alloc ?_ _) | (with_reducible refine Grows.drew ?_) | (with_reducible refine Grows.ext ?_ _ _)))⟩
  · have hw0 : whichV 0 = -1 := by decide
    have HA := Lib.hid (show aloneR [x0, x1, x2, x3, x4, x5] = (noPen, false) by simp [aloneR, show max 0 x0 = 0 by omega, hw0])
    go_enter Tryd.func72, Tryd.ntmps72
    go_wp2_with (first | (go_at_call 68; (with_reducible refine (which_any _ _).mono ?_); rintro e w' ⟨rfl, h2, d2, rfl⟩) | (go_at_call 36; (with_reducible refine (pen36_any _ _ _).mono ?_); rintro e w' ⟨rfl, h3, d3, rfl⟩) | (go_at_call 70; (with_reducible refine (col70_any _ _ _ _).mono ?_); rintro e w' ⟨rfl, h4, d4, rfl⟩))
    refine wp_region_grow (by kernel_rfl) (by kernel_rfl) ?_
    repeat (first | go_big_quiet_step ((fail)) | quiet_step ((fail)))
    refine wpQuiet_nil ?_
    rintro _ ⟨g179, rfl⟩
    go_wp2_with fail
    refine wp_region_grow (by kernel_rfl) (by kernel_rfl) ?_
    repeat (first | go_big_quiet_step ((fail)) | quiet_step ((fail)))
    refine wpQuiet_nil ?_
    rintro _ ⟨g180, rfl⟩
    go_wp2_with fail
    go_returns
    exact ⟨by rw [HA.out]; rfl, (by repeat' (first | (with_reducible exact Grows.refl _) | (with_reducible refine Grows.alloc ?_ _) | (with_reducible refine Grows.drew ?_) | (with_reducible refine Grows.ext ?_ _ _)))⟩
end Go.Proofs.YtobbphkfdhjmdaaDoor

namespace Go.Proofs.YtobbphkfdhjmdaaDoor
open Go.RowKit

theorem alone72 (s : Value) (p : List Int) (hp : okPart p = true) (w : World) (h : IntsAt w s p) : Calls Tryd.prog 72 #[.agg #[s]] w (Ret (.tuple #[.agg (ansC (aloneR p)), .bool (aloneR p).2]) w) := by
  obtain ⟨h0, h6, hr⟩ := okPart_iff.1 hp
  match p, h0, h6, hr, h with
  | [x0], _, _, hr, h => exact alone_one s x0 (hr x0 (by simp)) w h
  | [x0, x1], _, _, hr, h => exact alone_two s x0 x1 (hr x0 (by simp)) (hr x1 (by simp)) w h
  | [x0, x1, x2], _, _, hr, h => exact alone_three s x0 x1 x2 (hr x0 (by simp)) (hr x1 (by simp)) (hr x2 (by simp)) w h
  | [x0, x1, x2, x3], _, _, hr, h => exact alone_four s x0 x1 x2 x3 (hr x0 (by simp)) (hr x1 (by simp)) (hr x2 (by simp)) (hr x3 (by simp)) w h
  | [x0, x1, x2, x3, x4], _, _, hr, h => exact alone_five s x0 x1 x2 x3 x4 (hr x0 (by simp)) (hr x1 (by simp)) (hr x2 (by simp)) (hr x3 (by simp)) (hr x4 (by simp)) w h
  | [x0, x1, x2, x3, x4, x5], _, _, hr, h => exact alone_six s x0 x1 x2 x3 x4 x5 (hr x0 (by simp)) (hr x1 (by simp)) (hr x2 (by simp)) (hr x3 (by simp)) (hr x4 (by simp)) (hr x5 (by simp)) w h
  | _ :: _ :: _ :: _ :: _ :: _ :: _ :: t, _, h6, _, _ => exact absurd h6 (by simp)
end Go.Proofs.YtobbphkfdhjmdaaDoor

