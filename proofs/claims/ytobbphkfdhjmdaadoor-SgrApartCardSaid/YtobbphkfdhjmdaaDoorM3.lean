/-
  front, whole. Walks: what a part may be. Walks: param.Check.
-/
import Derived.Test.YtobbphkfdhjmdaaDoorRows
import Derived.Test.YtobbphkfdhjmdaaDoorM1
import Derived.Test.YtobbphkfdhjmdaaDoorM2
import Derived.WalkKit
import Derived.WalkSpells
import Derived.WalkLawsBesides
import Derived.Handy
import Derived.Laws.Rows
import Derived.Great.BuildSlice
import Derived.Deep.Heap
import Derived.IntWalk
import Derived.Lib.Hide
import Derived.Outline
import Derived.Deep.Light
import Derived.Deep.LoopGhost
import Derived.BigGuardPart
import Derived.BigQuiet
import Derived.Deep.QuietTactic
import Derived.Deep.RegionHeld3
import Derived.Deep.DeepCutAuto
namespace Go.Proofs.YtobbphkfdhjmdaaDoor
open Go.RowKit

/-- What front answers: a pen, if there is one, and how many parameters it takes. -/
def FrontPost (r : List (List Int)) (w : World) (e : Ending) (w' : World) : Prop := ∃ kq : Int, ((frontP r).1.2 = true → kq = 39) ∧ e = .returned (.tuple #[.agg #[.int .i64 kq, .int .i64 (frontP r).1.1.n, .int .i64 (frontP r).1.1.m, .int .i64 (frontP r).1.1.ck, .int .i64 (frontP r).1.1.cn, .string ⟨#[]⟩], .bool (frontP r).1.2, .int .i64 ((frontP r).2 : Nat)]) ∧ Grows w w'
theorem kd_true {b : Bool} (h : b = true) : kd b = 39 := by subst h; rfl
theorem front_post {r : List (List Int)} {w : World} {f : Nat} {args : Array Value} (q : (Pen × Bool) × Nat) (hq : frontP r = q) (kq : Int) (hk : q.1.2 = true → kq = 39)
    (h : Calls Tryd.prog f args w (Ret (.tuple #[.agg #[.int .i64 kq, .int .i64 q.1.1.n, .int .i64 q.1.1.m, .int .i64 q.1.1.ck, .int .i64 q.1.1.cn, .string ⟨#[]⟩], .bool q.1.2, .int .i64 (q.2 : Nat)]) w)) : Calls Tryd.prog f args w (FrontPost r w) := by
  subst hq
  exact h.mono fun e w' ⟨he, g⟩ => ⟨kq, hk, he, g⟩
theorem kdP_true {s : List Int} (h : (partsP s).2 = true) : kdP s = 39 := by
  unfold kdP
  split
  · rfl
  · exact kd_true h
theorem front_any (v : Value) (r : List (List Int)) (B : Nat) (w : World) (h : RowAt w v r) (hr : r ≠ []) (hl : r.length ≤ 900) (hok : ∀ p ∈ r, 1 ≤ p.length ∧ p.length ≤ 1000) (hM : MapP w B simpleV) : Calls Tryd.prog 54 #[v, .map (some B)] w (FrontPost r w) := by
  match r, hr with
  | p :: t, _ =>
  have hp0 := hok p (by simp)
  simp only [List.length_cons] at hl
  by_cases hp : p.length = 1
  · obtain ⟨x, rfl⟩ := List.length_eq_one_iff.1 hp
    have hV : (valuesL ([x] :: t)).length = (valuesL t).length + 1 := rfl
    obtain ⟨L, hL⟩ : ∃ L, (valuesL ([x] :: t)).length = L := ⟨_, rfl⟩
    obtain ⟨v0, hv0⟩ : ∃ z, (valuesL ([x] :: t))[0]?.getD 0 = z := ⟨_, rfl⟩
    obtain ⟨v1, hv1⟩ : ∃ z, (valuesL ([x] :: t))[1]?.getD 0 = z := ⟨_, rfl⟩
    have hle := values_le ([x] :: t)
    have hL0 : 0 < L := by omega
    have hF : frontP ([x] :: t) = match ofV v0 with
      | some w => if 1 < L ∧ (v1 = 5 ∨ v1 = 2) then
          (if (if v1 = 2 then 5 else 3) ≤ L then shade w v1 (((valuesL ([x] :: t)).take (if v1 = 2 then 5 else 3)).drop 2) else (noPen, false), min (if v1 = 2 then 5 else 3) ([x] :: t).length)
        else (simpleP v0, 1)
      | none => (simpleP v0, 1) := by
      unfold frontP
      simp only [List.getD_eq_getElem?_getD, hL, hv0, hv1]
      rw [if_neg (by omega)]
      rfl
    have hl' : ([x] :: t).length ≤ 1000 := by simp; omega
    cases hof : ofV v0 with
    | none =>
      rw [hof] at hF
      exact front_post _ hF _ kd_true (front_simple_a v _ B w h hl' hM L hL v0 v1 hv0 hv1 hL0 (ofV_no hof))
    | some n =>
      obtain ⟨hB, hN⟩ := ofV_of hof
      rw [hof] at hF
      simp only [] at hF
      by_cases h1 : 1 < L
      · by_cases h5 : v1 = 5
        · subst h5
          rw [if_pos ⟨h1, Or.inl rfl⟩] at hF
          simp only [show ¬ ((5 : Int) = 2) by decide, if_false] at hF
          by_cases h3 : 3 ≤ L
          · rw [if_pos h3, list3 (by omega), Nat.min_eq_left (by omega)] at hF
            refine front_post _ hF _ kd_true ?_
            have := front_col_5 v _ B w h hl' L hL v0 _ hv0 hv1 rfl hB h3
            rw [hN] at this
            simp only [List.getD_eq_getElem?_getD] at this ⊢
            exact this
          · rw [if_neg h3] at hF
            exact front_post _ hF 0 (fun h => by cases h) (front_few_5 v _ B w h hl' L hL v0 hv0 hv1 h1 hB (by omega))
        · by_cases h2 : v1 = 2
          · subst h2
            rw [if_pos ⟨h1, Or.inr rfl⟩] at hF
            simp only [if_true] at hF
            by_cases h3 : 5 ≤ L
            · rw [if_pos h3, list5 (by omega), Nat.min_eq_left (by omega)] at hF
              refine front_post _ hF _ kd_true ?_
              have := front_col_2 v _ B w h hl' L hL v0 _ _ _ hv0 hv1 rfl rfl rfl hB h3
              rw [hN] at this
              simp only [List.getD_eq_getElem?_getD] at this ⊢
              exact this
            · rw [if_neg h3] at hF
              exact front_post _ hF 0 (fun h => by cases h) (front_few_2 v _ B w h hl' L hL v0 hv0 hv1 h1 hB (by omega))
          · rw [if_neg (fun h => h.2.elim h5 h2)] at hF
            exact front_post _ hF _ kd_true (front_simple_c v _ B w h hl' hM L hL v0 v1 hv0 hv1 h1 hB h5 h2)
      · rw [if_neg (fun h => h1 h.1)] at hF
        exact front_post _ hF _ kd_true (front_simple_b v _ B w h hl' hM L hL v0 v1 hv0 hv1 (by omega) hB)
  · exact front_post _ (front_parts hp t) _ kdP_true (front_parts_w v p t B w h (by omega) hp0.2 (by omega))
end Go.Proofs.YtobbphkfdhjmdaaDoor

namespace Go.Proofs.YtobbphkfdhjmdaaDoor
open Go.RowKit

def okN (n : Int) : Bool := decide (-1 ≤ n) && decide (n ≤ 9999)
theorem okPart_all (p : List Int) : okPart p = (!p.isEmpty && (decide (p.length ≤ 6) && p.all okN)) := rfl
theorem part1_any (n : Int) (w : World) : Calls Tryd.prog 46 #[.int .i64 n] w (fun e w' => e = .returned (.bool (!okN n)) ∧ w = w') := by
  by_cases h : -1 ≤ n ∧ n ≤ 9999
  · have e : okN n = true := by simp [okN, h]
    rw [e]
    obtain ⟨h1, h2⟩ := h
    clear e
    go_enter Tryd.func46, Tryd.ntmps46
    go_wp2
    go_ret
    exact ⟨ret_bool (by simp; omega), rfl⟩
  · have e : okN n = false := by
      rw [Bool.eq_false_iff]
      intro e
      exact h (by simpa [okN] using e)
    rw [e]
    clear e
    by_cases h1 : n < -1
    · go_enter Tryd.func46, Tryd.ntmps46
      go_wp2
      go_ret
      exact ⟨rfl, rfl⟩
    · have h2 : 9999 < n := by omega
      go_enter Tryd.func46, Tryd.ntmps46
      go_wp2
      go_ret
      exact ⟨rfl, rfl⟩
theorem all_snoc {α : Type} (f : α → Bool) (d : α) {l : List α} {k : Nat} (hk : k < l.length) : (l.take (k + 1)).all f = ((l.take k).all f && f (l[k]?.getD d)) := by
  rw [List.take_succ_eq_append_getElem hk, List.all_append]
  simp [hk]
theorem all_out {α : Type} (f : α → Bool) (d : α) {l : List α} {k : Nat} (hk : k < l.length) (h : f (l[k]?.getD d) = false) : l.all f = false := by
  rw [Bool.eq_false_iff]
  intro hw
  have := List.all_eq_true.1 hw l[k] (List.getElem_mem hk)
  simp [hk] at h
  rw [h] at this
  cases this
set_option maxHeartbeats 1000000 in
theorem index_any (v : Value) (l : List Int) (hl : l.length ≤ 100000) (w : World) (h : IntsAt w v l) : Calls Tryd.prog 82 #[v, .func (.func 46) #[] #[]] w (fun e w' => ∃ z : Int, e = .returned (.int .i64 z) ∧ decide (z ≥ 0) = !(l.all okN) ∧ w = w') := by
  obtain ⟨a, cap, rfl, -, hin⟩ := h
  have Hin := Lib.hid hin
  clear hin
  go_enter Tryd.func82, Tryd.ntmps82
  go_wp2_with fail
  go_loop [8] (fun i => ∃ k : Nat, k ≤ l.length ∧ i = .int .i64 k ∧ (l.take k).all okN = true) (fun i => l.length - (intOf i).toNat)
  case atStart => exact ⟨0, Nat.zero_le _, rfl, rfl⟩
  case round =>
    obtain ⟨k, hk, rfl, hw⟩ := hrel
    have Hw := Lib.hid hw
    clear hw
    by_cases hlt : k < l.length
    · obtain ⟨b, off, rfl, _, hc⟩ := Hin.out (by rintro rfl; simp at hlt)
      have c0 := hc k hlt
      have hs := Lib.hid (all_snoc okN 0 hlt)
      have ho := Lib.hid (all_out okN 0 hlt)
      have HC := Lib.hid (part1_any (l[k]?.getD 0))
      generalize l[k]?.getD 0 = x at *
      clear hc
      generalize okN x = q at *
      cases q with
      | true =>
        go_wp2_with (go_at_call 46; (with_reducible refine (HC.out _).mono ?_); rintro e w' ⟨rfl, rfl⟩)
        go_round
        case rel => exact ⟨k + 1, by omega, by go_num, by rw [hs.out, Hw.out]; rfl⟩
        case measure => simp [intOf]; omega
      | false =>
        go_wp2_with (go_at_call 46; (with_reducible refine (HC.out _).mono ?_); rintro e w' ⟨rfl, rfl⟩)
        go_ret
        exact ⟨k, rfl, by rw [ho.out trivial]; simp, rfl⟩
    · go_wp2_with fail
      go_ret
      have e : l.take k = l := List.take_of_length_le (by omega)
      have hw := Hw.out
      rw [e] at hw
      exact ⟨-1, rfl, by rw [hw]; rfl, rfl⟩
theorem contains_any (v : Value) (l : List Int) (hl : l.length ≤ 100000) (w : World) (h : IntsAt w v l) : Calls Tryd.prog 45 #[v, .func (.func 46) #[] #[]] w (fun e w' => e = .returned (.bool (!(l.all okN))) ∧ w = w') := by
  have HI := Lib.hid fun W hW => index_any v l hl W hW
  have H := Lib.hid h
  clear h
  go_enter Tryd.func45, Tryd.ntmps45
  go_wp2_with (go_at_call 82; (with_reducible refine (HI.out _ H.out).mono ?_); rintro e w' ⟨z, rfl, hz, rfl⟩)
  go_ret
  first | exact ⟨rfl, rfl⟩ | exact ⟨ret_bool hz, rfl⟩
theorem bad_any (s : Value) (p : List Int) (hl : p.length ≤ 100000) (w : World) (h : IntsAt w s p) : Calls Tryd.prog 44 #[.agg #[s]] w (Ret (.bool (!okPart p)) w) := by
  have HI := Lib.hid fun W hW => contains_any s p hl W hW
  have H := Lib.hid h
  obtain ⟨a, cap, rfl, -, -⟩ := h
  rw [okPart_all]
  cases hp : p.isEmpty with
  | true =>
    have e : p.length = 0 := by simpa using hp
    rw [e] at HI H ⊢
    clear hl
    go_enter Tryd.func44, Tryd.ntmps44
    go_wp2_with (fail)
    go_returns
    exact ⟨rfl, (by repeat' (first | (with_reducible exact Grows.refl _) | (with_reducible refine Grows.alloc ?_ _) | (with_reducible refine Grows.drew ?_) | (with_reducible refine Grows.ext ?_ _ _)))⟩
  | false =>
    have e0 : ((p.length : Int) == 0) = false := by
      cases p with
      | nil => cases hp
      | cons x t => simp; omega
    by_cases h6 : p.length ≤ 6
    · have e6 : decide ((p.length : Int) > 6) = false := by simp; omega
      have e7 : decide (p.length ≤ 6) = true := by simpa using h6
      rw [e7]
      generalize p.all okN = q at *
      generalize p.length = n at *
      go_enter Tryd.func44, Tryd.ntmps44
      go_wp2_with (first | (go_at_call 45; (with_reducible refine (HI.out _ (H.out.grows (by repeat' (first | (with_reducible exact Grows.refl _) | (with_reducible refine Grows.alloc ?_ _) | (with_reducible refine Grows.drew ?_) | (with_reducible refine Grows.ext ?_ _ _))))).mono ?_); rintro e w' ⟨rfl, rfl⟩))
      go_returns
      exact ⟨by simp, (by repeat' (first | (with_reducible exact Grows.refl _) | (with_reducible refine Grows.alloc ?_ _) | (with_reducible refine Grows.drew ?_) | (with_reducible refine Grows.ext ?_ _ _)))⟩
    · have e6 : decide ((p.length : Int) > 6) = true := by simp; omega
      have e7 : decide (p.length ≤ 6) = false := by simpa using h6
      rw [e7]
      generalize p.all okN = q at *
      generalize p.length = n at *
      go_enter Tryd.func44, Tryd.ntmps44
      go_wp2_with (first | (go_at_call 45; (with_reducible refine (HI.out _ (H.out.grows (by repeat' (first | (with_reducible exact Grows.refl _) | (with_reducible refine Grows.alloc ?_ _) | (with_reducible refine Grows.drew ?_) | (with_reducible refine Grows.ext ?_ _ _))))).mono ?_); rintro e w' ⟨rfl, rfl⟩))
      go_returns
      exact ⟨by simp, (by repeat' (first | (with_reducible exact Grows.refl _) | (with_reducible refine Grows.alloc ?_ _) | (with_reducible refine Grows.drew ?_) | (with_reducible refine Grows.ext ?_ _ _)))⟩
end Go.Proofs.YtobbphkfdhjmdaaDoor

namespace Go.Proofs.YtobbphkfdhjmdaaDoor
open Go.RowKit

set_option maxHeartbeats 1000000 in
theorem indexP_any (v : Value) (r : List (List Int)) (hl : r.length ≤ 100000) (hp : ∀ p ∈ r, p.length ≤ 100000) (w : World) (h : RowAt w v r) : Calls Tryd.prog 83 #[v, .func (.func 44) #[] #[]] w (fun e w' => ∃ z : Int, e = .returned (.int .i64 z) ∧ decide (z ≥ 0) = !(r.all okPart) ∧ Grows w w') := by
  obtain ⟨a, cap, rfl, -, hin⟩ := h
  have Hin := Lib.hid hin
  clear hin
  go_enter Tryd.func83, Tryd.ntmps83
  go_wp2_with fail
  go_loopw [8] (fun i wr' => ∃ (wv : World) (k : Nat), wv = wr' ∧ k ≤ r.length ∧ i = .int .i64 k ∧ (r.take k).all okPart = true ∧ Grows w wv) (fun i _ => r.length - (intOf i).toNat)
  case atStart => exact ⟨_, 0, rfl, Nat.zero_le _, rfl, rfl, Grows.refl _⟩
  case round =>
    obtain ⟨wa, k, rfl, hk, rfl, hw, hG⟩ := hrel
    have Hw := Lib.hid hw
    have HG := Lib.hid hG
    clear hw hG
    by_cases hlt : k < r.length
    · obtain ⟨b, off, rfl, hb, hc⟩ := Hin.out (by rintro rfl; simp at hlt)
      obtain ⟨s, hs, hI⟩ := hc k hlt
      have c0 := (HG.out.cellOf (i := off + k) hb).trans hs
      have hpl : (r[k]?.getD []).length ≤ 100000 := by
        have := hp r[k] (List.getElem_mem hlt)
        simpa [hlt] using this
      have hs' := Lib.hid (all_snoc okPart [] hlt)
      have ho := Lib.hid (all_out okPart [] hlt)
      have HC := Lib.hid (bad_any s (r[k]?.getD []) hpl wa (hI.grows HG.out))
      generalize r[k]?.getD [] = x at *
      clear hc hs hI hpl hp
      generalize okPart x = q at *
      cases q with
      | true =>
        go_wp2_with (go_at_call 44; (with_reducible refine (HC.out).mono ?_); rintro e w' ⟨rfl, h47, d47, rfl⟩)
        go_roundw
        case rel => exact ⟨_, k + 1, rfl, by omega, by go_num, by rw [hs'.out, Hw.out]; rfl, (by repeat' (first | (with_reducible exact HG.out) | (with_reducible refine Grows.ext ?_ _ _)))⟩
        case measure => simp [intOf]; omega
      | false =>
        go_wp2_with (go_at_call 44; (with_reducible refine (HC.out).mono ?_); rintro e w' ⟨rfl, h48, d48, rfl⟩)
        go_ret
        exact ⟨k, rfl, by rw [ho.out trivial]; simp, (by repeat' (first | (with_reducible exact HG.out) | (with_reducible refine Grows.ext ?_ _ _)))⟩
    · go_wp2_with fail
      go_ret
      have e : r.take k = r := List.take_of_length_le (by omega)
      have hw := Hw.out
      rw [e] at hw
      exact ⟨-1, rfl, by rw [hw]; rfl, HG.out⟩
theorem containsP_any (v : Value) (r : List (List Int)) (hl : r.length ≤ 100000) (hp : ∀ p ∈ r, p.length ≤ 100000) (w : World) (h : RowAt w v r) : Calls Tryd.prog 48 #[v, .func (.func 44) #[] #[]] w (Ret (.bool (!(r.all okPart))) w) := by
  have HI := Lib.hid fun W hW => indexP_any v r hl hp W hW
  have H := Lib.hid h
  clear h hp
  go_enter Tryd.func48, Tryd.ntmps48
  go_wp2_with (go_at_call 83; (with_reducible refine (HI.out _ H.out).mono ?_); rintro e w' ⟨z, rfl, hz, h1, d1, rfl⟩)
  go_ret
  first | exact ⟨rfl, (by repeat' (first | (with_reducible exact Grows.refl _) | (with_reducible refine Grows.alloc ?_ _) | (with_reducible refine Grows.drew ?_) | (with_reducible refine Grows.ext ?_ _ _)))⟩ | exact ⟨ret_bool hz, (by repeat' (first | (with_reducible exact Grows.refl _) | (with_reducible refine Grows.alloc ?_ _) | (with_reducible refine Grows.drew ?_) | (with_reducible refine Grows.ext ?_ _ _)))⟩
theorem empty_any (v : Value) (r : List (List Int)) (hl : r.length ≤ 100000) (w : World) (h : RowAt w v r) : Calls Tryd.prog 47 #[v] w (fun e w' => e = .returned (.bool (r == [[-1]])) ∧ w = w') := by
  obtain ⟨a, cap, rfl, -, hin⟩ := h
  by_cases h1 : r.length = 1
  · obtain ⟨p, rfl⟩ := List.length_eq_one_iff.1 h1
    obtain ⟨b, off, rfl, hb, hc⟩ := hin (by simp)
    obtain ⟨s, c0, a2, cap2, rfl, -, hin2⟩ := hc 0 (by simp)
    simp only [Nat.add_zero, List.getElem?_cons_zero, Option.getD_some, List.length_singleton] at *
    by_cases h2 : p.length = 1
    · obtain ⟨x, rfl⟩ := List.length_eq_one_iff.1 h2
      obtain ⟨b2, off2, rfl, hb2, hc2⟩ := hin2 (by simp)
      have c1 := hc2 0 (by simp)
      simp only [Nat.add_zero, List.getElem?_cons_zero, Option.getD_some, List.length_singleton] at *
      have e : ([[x]] == [[(-1 : Int)]]) = (x == -1) := by simp
      rw [e]
      clear hc hc2 hin hin2 h1 h2
      go_enter Tryd.func47, Tryd.ntmps47
      go_wp2
      go_ret
      exact ⟨rfl, rfl⟩
    · have e : ([p] == [[(-1 : Int)]]) = false := by
        rw [beq_eq_false_iff_ne]
        intro e
        simp at e
        rw [e] at h2
        simp at h2
      have e2 : ((p.length : Int) == 1) = false := by simp; omega
      rw [e]
      clear hc hin hin2
      go_enter Tryd.func47, Tryd.ntmps47
      go_wp2
      go_ret
      exact ⟨rfl, rfl⟩
  · have e : (r == [[(-1 : Int)]]) = false := by
      rw [beq_eq_false_iff_ne]
      rintro rfl
      simp at h1
    have e2 : ((r.length : Int) == 1) = false := by simp; omega
    rw [e]
    clear hin
    go_enter Tryd.func47, Tryd.ntmps47
    go_wp2
    go_ret
    exact ⟨rfl, rfl⟩
theorem okRow_all (r : List (List Int)) : okRow r = (decide (r.length ≤ 16) && (!(r == [[-1]]) && r.all okPart)) := rfl
theorem check_row (v : Value) (r : List (List Int)) (hl : r.length ≤ 100000) (hp : ∀ p ∈ r, p.length ≤ 100000) (w : World) (h : RowAt w v r) : Calls Tryd.prog 27 #[v] w (Ret (.int .i64 (pensErr r)) w) := by
  have HE := Lib.hid fun W hW => empty_any v r hl W hW
  have HC := Lib.hid fun W hW => containsP_any v r hl hp W hW
  have H := Lib.hid h
  obtain ⟨a, cap, rfl, -, -⟩ := h
  unfold pensErr
  rw [okRow_all]
  clear hp
  by_cases h16 : r.length ≤ 16
  · have e1 : decide ((r.length : Int) > 16) = false := by simp; omega
    have e2 : decide (r.length ≤ 16) = true := by simpa using h16
    rw [e2]
    generalize (r == [[-1]]) = q at *
    generalize r.all okPart = s at *
    generalize r.length = n at *
    cases q
    · cases s
      all_goals
        go_enter Tryd.func27, Tryd.ntmps27
        go_wp2_with (first | (go_at_call 47; (with_reducible refine (HE.out _ (H.out.grows (by repeat' (first | (with_reducible exact Grows.refl _) | (with_reducible refine Grows.alloc ?_ _) | (with_reducible refine Grows.drew ?_) | (with_reducible refine Grows.ext ?_ _ _))))).mono ?_); rintro e w' ⟨rfl, rfl⟩) | (go_at_call 48; (with_reducible refine (HC.out _ (H.out.grows (by repeat' (first | (with_reducible exact Grows.refl _) | (with_reducible refine Grows.alloc ?_ _) | (with_reducible refine Grows.drew ?_) | (with_reducible refine Grows.ext ?_ _ _))))).mono ?_); rintro e w' ⟨rfl, h50, d50, rfl⟩))
        go_ret
        exact ⟨rfl, (by repeat' (first | (with_reducible exact Grows.refl _) | (with_reducible refine Grows.alloc ?_ _) | (with_reducible refine Grows.drew ?_) | (with_reducible refine Grows.ext ?_ _ _)))⟩
    · cases s
      all_goals
        go_enter Tryd.func27, Tryd.ntmps27
        go_wp2_with (first | (go_at_call 47; (with_reducible refine (HE.out _ (H.out.grows (by repeat' (first | (with_reducible exact Grows.refl _) | (with_reducible refine Grows.alloc ?_ _) | (with_reducible refine Grows.drew ?_) | (with_reducible refine Grows.ext ?_ _ _))))).mono ?_); rintro e w' ⟨rfl, rfl⟩) | (go_at_call 48; (with_reducible refine (HC.out _ (H.out.grows (by repeat' (first | (with_reducible exact Grows.refl _) | (with_reducible refine Grows.alloc ?_ _) | (with_reducible refine Grows.drew ?_) | (with_reducible refine Grows.ext ?_ _ _))))).mono ?_); rintro e w' ⟨rfl, h50, d50, rfl⟩))
        go_ret
        exact ⟨rfl, (by repeat' (first | (with_reducible exact Grows.refl _) | (with_reducible refine Grows.alloc ?_ _) | (with_reducible refine Grows.drew ?_) | (with_reducible refine Grows.ext ?_ _ _)))⟩
  · have e1 : decide ((r.length : Int) > 16) = true := by simp; omega
    have e2 : decide (r.length ≤ 16) = false := by simpa using h16
    rw [e2]
    generalize r.length = n at *
    go_enter Tryd.func27, Tryd.ntmps27
    go_wp2_with (fail)
    go_ret
    exact ⟨rfl, (by repeat' (first | (with_reducible exact Grows.refl _) | (with_reducible refine Grows.alloc ?_ _) | (with_reducible refine Grows.drew ?_) | (with_reducible refine Grows.ext ?_ _ _)))⟩
end Go.Proofs.YtobbphkfdhjmdaaDoor

