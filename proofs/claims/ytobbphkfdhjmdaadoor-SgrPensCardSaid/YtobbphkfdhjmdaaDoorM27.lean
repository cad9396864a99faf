/-
  The reference's Pens.
-/
import Derived.Test.YtobbphkfdhjmdaaDoorRows
import Derived.Test.YtobbphkfdhjmdaaDoorM1
import Derived.Test.YtobbphkfdhjmdaaDoorM2
import Derived.Test.YtobbphkfdhjmdaaDoorM3
import Derived.Test.YtobbphkfdhjmdaaDoorM10
import Derived.Test.YtobbphkfdhjmdaaDoorM15
import Derived.Test.YtobbphkfdhjmdaaDoorM17
import Derived.Test.YtobbphkfdhjmdaaDoorM19
import Derived.WalkKit
import Derived.WalkSpells
import Derived.WalkLawsBesides
import Derived.Handy
import Derived.Laws.Rows
import Derived.Great.BuildSlice
import Derived.Deep.Heap
import Derived.IntWalk
import Derived.Lib.Hide
import Derived.Outline
import Derived.Deep.Light
import Derived.Deep.LoopGhost
import Derived.BigGuardPart
import Derived.BigQuiet
import Derived.Deep.QuietTactic
import Derived.Deep.RegionHeld3
import Derived.Deep.DeepCutAuto
import Derived.OwnWalk
import Derived.Maps.AppendAt
namespace Go.Proofs.YtobbphkfdhjmdaaDoor
open Go.RowKit

def lenOf : Value → Nat
  | .slice _ n _ => n
  | _ => 0
theorem pens22_bad (v : Value) (r : List (List Int)) (hl : r.length ≤ 100000) (hp : ∀ p ∈ r, p.length ≤ 100000) (w : World) (hok : okRow r = false) (h : RowAt w v r) : Calls Tryd.prog 22 #[v] w (Ret (.tuple #[.slice none 0 0, .int .i64 150]) w) := by
  have HC := Lib.hid fun W (hW : Grows w W) => check35 v r hl hp W (h.grows hW)
  have he : pensErr r = 150 := by simp [pensErr, hok]
  rw [he] at HC
  obtain ⟨a, cap, rfl, hcap, hin⟩ := h
  go_enter Tryd.func22, Tryd.ntmps22
  go_wp2_with (first | (go_at_call 35; (with_reducible refine (HC.out _ (by repeat' (first | (with_reducible exact Grows.refl _) | (with_reducible refine Grows.alloc ?_ _) | (with_reducible refine Grows.drew ?_) | (with_reducible refine Grows.ext ?_ _ _)))).mono ?_); rintro e w' ⟨rfl, h184, d184, rfl⟩))
  go_returns
  exact ⟨rfl, (by repeat' (first | (with_reducible exact Grows.refl _) | (with_reducible refine Grows.alloc ?_ _) | (with_reducible refine Grows.drew ?_) | (with_reducible refine Grows.ext ?_ _ _)))⟩
theorem pens22_none (a : Option Addr) (cap : Nat) (w : World) : Calls Tryd.prog 22 #[.slice a 0 cap] w (fun e w' => ∃ x', e = .returned (.tuple #[x', .int .i64 0]) ∧ ActsAt w' x' [actP (pen 0 0)] ∧ Grows w w') := by
  have HC := Lib.hid fun W (_ : Grows w W) => check35 (.slice a 0 cap) [] (by simp) (by simp) W ⟨a, cap, rfl, by simp, fun h => absurd rfl h⟩
  have he : pensErr [] = 0 := by decide
  rw [he] at HC
  go_enter Tryd.func22, Tryd.ntmps22
  go_wp2_with (first | (go_at_call 35; (with_reducible refine (HC.out _ (by repeat' (first | (with_reducible exact Grows.refl _) | (with_reducible refine Grows.alloc ?_ _) | (with_reducible refine Grows.drew ?_) | (with_reducible refine Grows.ext ?_ _ _)))).mono ?_); rintro e w' ⟨rfl, h184, d184, rfl⟩) | (go_at_call 36; (with_reducible refine (pen36_any _ _ _).mono ?_); rintro e w' ⟨rfl, h3, d3, rfl⟩))
  go_returns
  exact ⟨_, rfl, (own_new (p := actP (pen 0 0)) (by simp)).at_, (by repeat' (first | (with_reducible exact Grows.refl _) | (with_reducible refine Grows.alloc ?_ _) | (with_reducible refine Grows.drew ?_) | (with_reducible refine Grows.ext ?_ _ _)))⟩
set_option maxRecDepth 100000 in
set_option maxHeartbeats 8000000 in
theorem pens22_run (v : Value) (x : List Int) (r : List (List Int)) (w : World) (hok : okRow (x :: r) = true) (h : RowAt w v (x :: r)) : Calls Tryd.prog 22 #[v] w (fun e w' => ∃ x', e = .returned (.tuple #[x', .int .i64 0]) ∧ ActsAt w' x' ((pensL (x :: r)).map actP) ∧ Grows w w') := by
  obtain ⟨i0, hi, hz0, hz1, hz2⟩ := info_parts infoAct
  obtain ⟨k1, k2, k3⟩ := okRow_iff.1 hok
  have k4 : ∀ p ∈ x :: r, p.length ≤ 100000 := fun p hp => by
    obtain ⟨q1, q2, q3⟩ := okPart_iff.1 (k3 p hp)
    omega
  have HC := Lib.hid fun W (hW : Grows w W) => check35 v (x :: r) (by omega) k4 W (h.grows hW)
  have he : pensErr (x :: r) = 0 := by simp [pensErr, hok]
  rw [he] at HC
  have K1 := Lib.hid k1
  have K3 := Lib.hid k3
  have H := Lib.hid h
  have hlen := pensL_len _ (x :: r) (Nat.le_refl _)
  have hlen2 : (pensL (x :: r)).length ≤ 16 := by omega
  clear hlen
  have e0 : ((((r.length : Nat) : Int) + 1) == 0) = false := by simp; omega
  obtain ⟨a0, cap0, rfl, -, -⟩ := id h
  clear h k1 k2 k3 k4 he hok
  generalize hgl : pensL (x :: r) = gl at *
  simp only [List.length_cons] at HC ⊢
  go_enter Tryd.func22, Tryd.ntmps22
  go_upto_region 6 with (first | (go_at_call 35; (with_reducible refine (HC.out _ (by repeat' (first | (with_reducible exact Grows.refl _) | (with_reducible refine Grows.alloc ?_ _) | (with_reducible refine Grows.drew ?_) | (with_reducible refine Grows.ext ?_ _ _)))).mono ?_); rintro e w' ⟨rfl, h184, d184, rfl⟩))
  refine abs_worldM (fun W => Grows w W) (by repeat' (first | (with_reducible exact Grows.refl _) | (with_reducible refine Grows.alloc ?_ _) | (with_reducible refine Grows.drew ?_) | (with_reducible refine Grows.ext ?_ _ _))) ?_
  rintro W0 hG0
  have HG0 := Lib.hid hG0
  clear hG0 HC
  go_loopw [0, 4] (fun l out wr => ∃ (wv : World) (rest : List (List Int)) (acc : List Pen), wv = wr ∧ RowAt w l rest ∧ rest.length ≤ 16 ∧ (∀ p ∈ rest, okPart p = true) ∧ gl = acc ++ pensL rest ∧ Grows w wv ∧ wv.ownsRow w.heap.size 26 6 out acc.length (actsC (acc.map actP))) (fun l _ _ => lenOf l)
  case atStart => exact ⟨_, x :: r, [], rfl, H.out, K1.out, K3.out, by simpa using hgl.symm, HG0.out, World.ownsRow_nil _ _ _ _⟩
  case round =>
    obtain ⟨wb, rest, acc, rfl, hr, hr16, hr3, hx, hG, hO⟩ := hrel
    have HG := Lib.hid hG
    have HO := Lib.hid hO
    cases rest with
    | nil =>
      obtain ⟨a, cap, rfl, -, -⟩ := hr
      have hA : ActsAt wb _ (acc.map actP) := OwnA.at_ (base := w.heap.size) (by unfold OwnA; rw [List.length_map]; exact hO)
      have hx' : gl = acc := by simpa [pensL] using hx
      have HA := Lib.hid (And.intro hA hx')
      clear hG hO hx hx' hA
      go_wp2_with fail
      go_ret2
      exact ⟨_, rfl, by rw [HA.out.2]; exact HA.out.1, HG.out⟩
    | cons y rest =>
      have HF := Lib.hid (front37_any _ (y :: rest) (by omega) (by simp) hr3 wb (hr.grows hG))
      have hx2 := pensL_same frontR front_same y rest
      have hq1 := frontP_pos y rest
      have hq2 := frontP_le y rest
      obtain ⟨s1, s2, s3⟩ := front_same y rest
      rw [s1] at hq1 hq2
      clear s1 s2 s3
      generalize frontR (y :: rest) = q at *
      obtain ⟨⟨⟨pn, pm, pck, pcn⟩, is⟩, k⟩ := q
      dsimp only at HF hq1 hq2 hx2
      obtain ⟨a, cap, rfl, hcap, hin⟩ := hr
      have e1 : decide ((((y :: rest).length : Nat) : Int) > 0) = true := by simp
      have e2 : (k : Int) ≤ rest.length + 1 := by simp only [List.length_cons] at hq2; omega
      have e3 : ((rest.length + 1 : Nat) : Int) ≤ cap := by simp only [List.length_cons] at hcap; omega
      have hd := drop_row (k := k) (show RowAt w (.slice a (rest.length + 1) cap) (y :: rest) from ⟨a, cap, rfl, hcap, hin⟩) hq2
      have hd3 : ∀ p ∈ (y :: rest).drop k, okPart p = true := fun p hp => hr3 p (List.mem_of_mem_drop hp)
      have hd4 : ((y :: rest).drop k).length ≤ 16 := by rw [List.length_drop]; omega
      have hd5 : ((y :: rest).drop k).length = rest.length + 1 - k := by simp
      have HD := Lib.hid (And.intro hd (And.intro hd3 hd4))
      have hsz := hO.lt
      have hws := hG.size
      clear hin hG hO hd hd3 hd4 hr3
      generalize (y :: rest).drop k = rest' at *
      cases is with
      | false =>
        simp only [ansC, Bool.false_eq_true, if_false, List.nil_append] at HF hx2
        have hx3 : gl = acc ++ pensL rest' := by rw [hx, hx2]
        have HX := Lib.hid hx3
        clear hx hx2 hx3
        simp only [List.length_cons] at HF ⊢
        go_wp2_with (go_at_call 37; (with_reducible refine HF.out.mono ?_); rintro e w' ⟨rfl, h1, d1, rfl⟩)
        go_roundw
        case rel => exact ⟨_, rest', acc, rfl, HD.out.1, HD.out.2.2, HD.out.2.1, HX.out, HG.out.trans (by repeat' (first | (with_reducible exact Grows.refl _) | (with_reducible refine Grows.alloc ?_ _) | (with_reducible refine Grows.setCell ?_ (by omega) _) | (with_reducible refine Grows.drew ?_) | (with_reducible refine Grows.ext ?_ _ _))), owns_grows HO.out (by repeat' (first | (with_reducible exact Grows.refl _) | (with_reducible refine Grows.alloc ?_ _) | (with_reducible refine Grows.setCell ?_ (by omega) _) | (with_reducible refine Grows.drew ?_) | (with_reducible refine Grows.ext ?_ _ _)))⟩
        case measure => simp [lenOf]; omega
      | true =>
        simp only [ansC, if_true] at HF hx2
        have hx3 : gl = (acc ++ [(⟨pn, pm, pck, pcn⟩ : Pen)]) ++ pensL rest' := by rw [hx, hx2, List.append_assoc]
        have HX := Lib.hid hx3
        have hac : acc.length < 16 := by rw [hx3] at hlen2; simp only [List.length_append, List.length_singleton] at hlen2; omega
        clear hx hx2 hx3
        simp only [List.length_cons] at HF ⊢
        go_wp2_with (first | (go_at_call 37; (with_reducible refine HF.out.mono ?_); rintro e w' ⟨rfl, h1, d1, rfl⟩) | (at_builtin; refine wpList_append_own _ rfl (.tmp 26) (.tmp 28) 33 rfl w.heap.size 26 i0 _ 6 56 Tryd.underlying33 hi hz0 hz1 hz2 rfl (by decide) _ _ _ rfl ((owns_grows HO.out (by repeat' (first | (with_reducible exact Grows.refl _) | (with_reducible refine Grows.alloc ?_ _) | (with_reducible refine Grows.setCell ?_ (by omega) _) | (with_reducible refine Grows.drew ?_) | (with_reducible refine Grows.ext ?_ _ _)))).alloc _) ⟨wb.heap.size + h1.size + 1, 0, none⟩ 1 1 [.int .i64 39, .int .i64 pn, .int .i64 pm, .int .i64 pck, .int .i64 pcn, .string ⟨#[]⟩] rfl rfl (cells_at6 (by simp)) (by simp [Value.oneCell']) (by unfold maxLen; omega) (by omega) (by simp; omega) ?_; intro v2 w1 hown' hgrow _))
        have hO2 : w1.ownsRow w.heap.size 26 6 v2 (acc ++ [(⟨pn, pm, pck, pcn⟩ : Pen)]).length (actsC ((acc ++ [(⟨pn, pm, pck, pcn⟩ : Pen)]).map actP)) := by
          rw [List.map_append, List.map_singleton, actsC_snoc, List.length_append, List.length_singleton]
          exact hown'
        have hG2 : Grows w w1 := Grows.appended (HG.out.trans (by repeat' (first | (with_reducible exact Grows.refl _) | (with_reducible refine Grows.alloc ?_ _) | (with_reducible refine Grows.setCell ?_ (by omega) _) | (with_reducible refine Grows.drew ?_) | (with_reducible refine Grows.ext ?_ _ _)))) hgrow (fun q e => (hsz q e).1)
        go_wp2_with fail
        go_roundw
        case rel => exact ⟨_, rest', acc ++ [(⟨pn, pm, pck, pcn⟩ : Pen)], rfl, HD.out.1, HD.out.2.2, HD.out.2.1, HX.out, hG2, hO2⟩
        case measure => simp [lenOf]; omega
theorem pens22_any (v : Value) (r : List (List Int)) (hl : r.length ≤ 100000) (hp : ∀ p ∈ r, p.length ≤ 100000) (w : World) (h : RowAt w v r) : Calls Tryd.prog 22 #[v] w (fun e w' => ∃ x', e = .returned (.tuple #[x', .int .i64 (pensErr r)]) ∧ ActsAt w' x' ((pensOf r).map actP) ∧ Grows w w') := by
  by_cases hok : okRow r = true
  · have he : pensErr r = 0 := by simp [pensErr, hok]
    rw [he]
    cases r with
    | nil =>
      obtain ⟨a, cap, rfl, hcap, hin⟩ := h
      have e : pensOf [] = [pen 0 0] := by decide
      rw [e]
      exact pens22_none a cap w
    | cons x r =>
      have e : pensOf (x :: r) = pensL (x :: r) := by simp [pensOf, hok]
      rw [e]
      exact pens22_run v x r w hok h
  · have hok' : okRow r = false := by simpa using hok
    have he : pensErr r = 150 := by simp [pensErr, hok']
    have e : pensOf r = [] := by simp [pensOf, hok']
    rw [he, e]
    exact (pens22_bad v r hl hp w hok' h).mono fun e w' hh => ⟨_, hh.1, ActsAt.nil w', hh.2⟩
end Go.Proofs.YtobbphkfdhjmdaaDoor

