/-
  The row of a draft of parameters. The row near the known values. SgrSound. Slices of whole numbers among the arguments.
-/
import Derived.Test.YtobbphkfdhjmdaaDoorRows
import Derived.Test.YtobbphkfdhjmdaaDoorM1
import Derived.Test.YtobbphkfdhjmdaaDoorM9
import Derived.Test.YtobbphkfdhjmdaaDoorM10
import Derived.Test.YtobbphkfdhjmdaaDoorM11
import Derived.WalkKit
import Derived.WalkSpells
import Derived.WalkLawsBesides
import Derived.Handy
import Derived.Laws.Rows
import Derived.Great.BuildSlice
import Derived.Deep.Heap
import Derived.IntWalk
import Derived.Lib.Hide
import Derived.Outline
import Derived.Deep.Light
import Derived.Deep.LoopGhost
import Derived.BigGuardPart
import Derived.BigQuiet
import Derived.Deep.QuietTactic
import Derived.Deep.RegionHeld3
import Derived.Deep.DeepCutAuto
import Derived.OwnWalk
import Derived.Maps.AppendAt
import Derived.Test.YtobbphkfdhjmdaaDoorM2
import Derived.Great.Walk
import Derived.Test.YtobbphkfdhjmdaaDoorM3
import Derived.Test.YtobbphkfdhjmdaaDoorM4
import Derived.Test.YtobbphkfdhjmdaaDoorM12
import Derived.Test.YtobbphkfdhjmdaaDoorM13
import Derived.Test.YtobbphkfdhjmdaaDoorM15
namespace Go.Proofs.YtobbphkfdhjmdaaDoor
open Go.RowKit

def Small (r : List (List Int)) : Prop := r.length ≤ 16 ∧ ∀ p ∈ r, p.length ≤ 6
theorem small_snoc {r : List (List Int)} {p : List Int} (h : Small r) (hr : r.length < 16) (hp : p.length ≤ 6) : Small (r ++ [p]) := by
  refine ⟨by simp; omega, fun q hq => ?_⟩
  rcases List.mem_append.1 hq with hq | hq
  · exact h.2 q hq
  · obtain rfl : q = p := by simpa using hq
    exact hp
def SomeRow (w : World) (e : Ending) (w' : World) : Prop := ∃ x r, e = .returned x ∧ RowAt w' x r ∧ Small r ∧ Grows w w'
theorem ints_own {base : Nat} {w : World} {v : Value} {l : List Int} (h : w.ownsRow base 3 1 v l.length (l.map (Value.int .i64 ·))) : IntsAt w v l ∧ ∀ b, v.ownBlock = some b → base ≤ b ∧ b < w.heap.size := ⟨ints_of_owns h, h.lt⟩
set_option maxRecDepth 100000 in
set_option maxHeartbeats 20000000 in
theorem row_any (pa pb : Option Addr) (cp cm : Nat) (lp lm : List Int) (w : World) (hp : IntsIn w .u16 pa lp) (hm : IntsIn w .u8 pb lm) (hpr : ∀ x ∈ lp, 0 ≤ x ∧ x < 65536) (hmr : ∀ x ∈ lm, 0 ≤ x ∧ x < 256) (hlp : lp.length ≤ 9223372036854775807) (hlm : lm.length ≤ 9223372036854775807) :
    Calls Tryd.prog 20 #[.agg #[.slice pa lp.length cp, .slice pb lm.length cm]] w (SomeRow w) := by
  obtain ⟨i0, hi, hz0, hz1, hz2⟩ := info_parts infoPar
  obtain ⟨j0, ji, jz0, jz1, jz2⟩ := info_parts info3t
  have HP := Lib.hid hp
  have HM := Lib.hid hm
  have HPR := Lib.hid hpr
  have HMR := Lib.hid hmr
  clear hp hm hpr hmr
  go_enter Tryd.func20, Tryd.ntmps20
  go_wp2_with fail
  go_loopw [3, 4, 5] (fun x k i wr' => ∃ (wv : World) (kk ii : Nat) (r : List (List Int)) (vs : List Value), wv = wr' ∧ ii ≤ 16 ∧ ii ≤ lm.length ∧ kk ≤ 6 * ii ∧ i = .int .i64 ii ∧ k = .int .i64 kk ∧ Grows w wv ∧ wv.cell? ⟨w.heap.size, 0, none⟩ = some (.slice pa lp.length cp) ∧ wv.cell? ⟨w.heap.size, 1, none⟩ = some (.slice pb lm.length cm) ∧ OwnRow (w.heap.size + 1) 38 wv x r vs ∧ r.length = ii ∧ ∀ p ∈ r, p.length ≤ 6) (fun _ _ i _ => 16 - (intOf i).toNat)
  case atStart => exact ⟨_, 0, 0, [], [], rfl, by omega, by omega, by omega, rfl, rfl, (by repeat' (first | (with_reducible exact Grows.refl _) | (with_reducible refine Grows.alloc ?_ _) | (with_reducible refine Grows.drew ?_) | (with_reducible refine Grows.ext ?_ _ _))), by simp [go_sem], by simp [go_sem], OwnRow.nil _ _ _, rfl, by simp⟩
  case round =>
    obtain ⟨wa, kk, ii, r, vs, rfl, hi16, hilm, hkk, rfl, rfl, hG, c0, c1, hO, hrl, hr6⟩ := hrel
    by_cases hlt : ii < lm.length ∧ ii < 16
    · obtain ⟨l1, l2⟩ := hlt
      have e1 : decide (ii < lm.length) = true := by simpa using l1
      have e2 : decide ((ii : Int) < 16) = true := by simp; omega
      have e2' : decide (ii < 16) = true := by simpa using l2
      obtain ⟨bm, om, rfl, hbm, hcm⟩ := HM.out (by intro e; subst e; simp at l1)
      have dm := (hG.cellOf hbm).trans (hcm ii l1)
      have rm := HMR.out (lm[ii]'l1) (List.getElem_mem l1)
      rw [List.getElem?_eq_getElem l1, Option.getD_some] at dm
      generalize lm[ii]'l1 = mm at *
      obtain ⟨rm0, rm1⟩ := rm
      have xm := Nat.lt_of_lt_of_le hbm hG.size
      have xw : w.heap.size < wa.heap.size := by
        rcases Nat.lt_or_ge w.heap.size wa.heap.size with h | h
        · exact h
        · have : wa.heap[w.heap.size]? = none := Array.getElem?_eq_none h
          unfold World.cell? at c0
          simp [this] at c0
      have HG := Lib.hid hG
      have HO := Lib.hid hO
      have hmq : 0 ≤ mm % 6 ∧ mm % 6 ≤ 5 := by omega
      have HR6 := Lib.hid hr6
      clear hcm hbm hG hO hr6
      go_wp2_with fail
      go_loopw [4, 7] (fun k j wr' => ∃ (wv : World) (jj : Nat) (q : List Int) (s : Value), wv = wr' ∧ jj ≤ 6 ∧ (jj : Int) ≤ mm % 6 + 1 ∧ k = .int .i64 ((kk + jj : Nat) : Int) ∧ j = .int .i64 jj ∧ Boxed wv wa.heap.size 38 s ∧ wv.ownsRow wa.heap.size 3 1 s q.length (q.map (Value.int .i64 ·)) ∧ q.length = jj ∧ Below wa.heap.size wa wv) (fun _ j _ => 6 - (intOf j).toNat)
      case atStart => exact ⟨_, 0, [], _, rfl, by omega, by omega, rfl, rfl, Boxed.new wa 38 _, World.ownsRow_nil _ _ _ _, rfl, (Below.refl _ wa).alloc (Nat.le_refl _) _⟩
      case round =>
        obtain ⟨wb, _, q, s, rfl, hj6, hjm, rfl, rfl, hbx, hrow, rfl, hB⟩ := hrel
        obtain ⟨hIn, hob⟩ := ints_own hrow
        obtain ⟨sa, sc, rfl, -, -⟩ := id hIn
        have HIn := Lib.hid hIn
        clear hIn
        have hG2 : Grows wa wb := Grows.of_below hB
        have c0' := (hG2.cellOf xw).trans c0
        have c1' := (hG2.cellOf xw).trans c1
        have dm' := (hG2.cellOf xm).trans dm
        have hbc := hbx.cell
        have hxb := hbx.lt
        have HG2 := Lib.hid hG2
        have HB := Lib.hid hB
        have HRow := Lib.hid hrow
        have HBx := Lib.hid hbx
        have hsz := hG2.size
        have hwb : w.heap.size < wb.heap.size := Nat.lt_of_lt_of_le xw hsz
        clear hG2 hB hrow hbx c0 c1 dm
        by_cases hjl : ((q.length : Nat) : Int) ≤ mm % 6
        · have e3 : decide (((q.length : Nat) : Int) ≤ mm % 6) = true := by simpa using hjl
          by_cases hkl : kk + q.length < lp.length
          · have e4 : decide (((kk + q.length : Nat) : Int) < lp.length) = true := by simp; omega
            obtain ⟨bp, op, rfl, hbp, hcp⟩ := HP.out (by intro e; subst e; simp at hkl)
            have dp := ((HG.out.trans HG2.out).cellOf hbp).trans (hcp (kk + q.length) hkl)
            have rp := HPR.out (lp[kk + q.length]'hkl) (List.getElem_mem hkl)
            rw [List.getElem?_eq_getElem hkl, Option.getD_some] at dp
            generalize lp[kk + q.length]'hkl = pp at *
            obtain ⟨rp0, rp1⟩ := rp
            generalize hkj : kk + q.length = kj at *
            clear hcp hbp
            go_wp2_with (at_builtin; refine wpList_append_own _ rfl (.tmp 46) (.tmp 48) 36 rfl wa.heap.size 3 j0 (.int .i64 0) 1 8 Tryd.underlying36 ji jz0 jz1 jz2 rfl (by decide) _ _ _ rfl (HRow.out.alloc _) ⟨wb.heap.size, 0, none⟩ 1 1 [_] rfl rfl (cell_one_new _ _ _) (by simp [Value.oneCell']) (by unfold maxLen; omega) (by omega) (by simp; omega) ?_; intro v2 w1 hown' hgrow _; obtain ⟨g', cap', rfl⟩ := ownsRow_succ hown'; obtain ⟨hv1, hv2, hr2, hk2, hb2⟩ := HBx.out.appended (by decide) HRow.out hsz (Nat.le_refl _) hown' hgrow; have hc1 := hv1.cell; have hf1 := hv1.frozen)
            go_roundw
            case rel => exact ⟨_, q.length + 1, q ++ [pp % 10001 - 1], _, rfl, by omega, by omega, by go_num, by go_num, hv2, by simpa using hr2, by simp, HB.out.trans hb2⟩
            case measure => simp [intOf]; omega
          · have e4 : decide (((kk + q.length : Nat) : Int) < lp.length) = false := by simp; omega
            generalize hkj : kk + q.length = kj at *
            go_wp2_with (at_builtin; refine wpList_append_own _ rfl (.tmp 46) (.tmp 48) 36 rfl wa.heap.size 3 j0 (.int .i64 0) 1 8 Tryd.underlying36 ji jz0 jz1 jz2 rfl (by decide) _ _ _ rfl (HRow.out.alloc _) ⟨wb.heap.size, 0, none⟩ 1 1 [_] rfl rfl (cell_one_new _ _ _) (by simp [Value.oneCell']) (by unfold maxLen; omega) (by omega) (by simp; omega) ?_; intro v2 w1 hown' hgrow _; obtain ⟨g', cap', rfl⟩ := ownsRow_succ hown'; obtain ⟨hv1, hv2, hr2, hk2, hb2⟩ := HBx.out.appended (by decide) HRow.out hsz (Nat.le_refl _) hown' hgrow; have hc1 := hv1.cell; have hf1 := hv1.frozen)
            go_roundw
            case rel => exact ⟨_, q.length + 1, q ++ [-1], _, rfl, by omega, by omega, by go_num, by go_num, hv2, by simpa using hr2, by simp, HB.out.trans hb2⟩
            case measure => simp [intOf]; omega
        · have e3 : decide (((q.length : Nat) : Int) ≤ mm % 6) = false := by simpa using hjl
          have hOg := HO.out.grows HG2.out
          have hxl := hOg.1.lt
          have hxl2 := HO.out.1.lt
          have HOG := Lib.hid hOg
          clear hOg
          go_wp2_with (at_builtin; refine wpList_append_own_at _ rfl (.tmp 53) (.tmp 55) 29 rfl (w.heap.size + 1) 38 i0 (.agg #[.slice none 0 0]) 1 24 Tryd.underlying29 hi hz0 hz1 hz2 rfl (by decide) _ _ _ rfl (HOG.out.1.alloc _) ⟨wb.heap.size, 0, none⟩ 1 1 [.slice sa q.length sc] rfl rfl (cell_at rfl) (by simp [Value.oneCell']) (by unfold maxLen; omega) (by omega) (by simp; omega) ?_; intro v' w1 hown' hgrow _ hat)
          have hO2 := HOG.out.snoc HIn.out (fun b' e => ⟨(hob b' e).2, fun e2 => by
            have h1 := (hob b' e).1
            have h2 := (hxl2 b' e2).2
            omega⟩) (by simpa using hown') hgrow (by simpa [go_sem] using hat)
          have hG3 : Grows w w1 := Grows.appended ((HG.out.trans HG2.out).alloc _) hgrow (fun q e => by have := (hxl q e).1; omega)
          have d0 : w1.cell? ⟨w.heap.size, 0, none⟩ = some (.slice pa lp.length cp) := hgrow.cell (by simp [go_sem, c0', hwb]) (fun e => Nat.not_succ_le_self _ (hxl _ e.symm).1)
          have d1 : w1.cell? ⟨w.heap.size, 1, none⟩ = some (.slice (some ⟨bm, om, none⟩) lm.length cm) := hgrow.cell (by simp [go_sem, c1', hwb]) (fun e => Nat.not_succ_le_self _ (hxl _ e.symm).1)
          go_roundw
          case rel =>
            refine ⟨_, kk + q.length, ii + 1, r ++ [q], _, rfl, by omega, by omega, by omega, by go_num, by go_num, hG3, d0, d1, hO2, by simp [hrl], fun p hp => ?_⟩
            rcases List.mem_append.1 hp with hp | hp
            · exact HR6.out p hp
            · obtain rfl : p = q := by simpa using hp
              omega
          case measure => simp [intOf]; omega
    · have hA := hO.at_
      have hsm : Small r := ⟨by omega, hr6⟩
      subst hrl
      by_cases hr1 : r.length = 1
      · obtain ⟨p0, rfl⟩ := List.length_eq_one_iff.1 hr1
        obtain ⟨xa, xc, rfl, hxc, hxi⟩ := id hA
        have HX := Lib.hid hxi
        have HG := Lib.hid hG
        have HA := Lib.hid hA
        clear hxi hG hO hA hr6
        have e1 : decide ((1 : Int) < lm.length) = false := by
          rcases Nat.lt_or_ge 1 lm.length with l1 | l1
          · exact absurd ⟨l1, by simp⟩ hlt
          · simp; omega
        have e1' : decide (1 < lm.length) = false := by simp at e1 ⊢; omega
        obtain ⟨bx, ox, rfl, hbx, hcx⟩ := HX.out (by simp)
        obtain ⟨s0, cs, is⟩ := hcx 0 (by simp)
        simp only [List.getElem?_cons_zero, Option.getD_some, Nat.add_zero] at is cs
        obtain ⟨ya, yc, rfl, hyc, hyi⟩ := is
        have HY := Lib.hid hyi
        clear hcx hyi
        by_cases hp1 : p0.length = 1
        · obtain ⟨y0, rfl⟩ := List.length_eq_one_iff.1 hp1
          obtain ⟨bz, oz, rfl, hbz, hcz⟩ := HY.out (by simp)
          have cz := hcz 0 (by simp)
          simp only [List.getElem?_cons_zero, Option.getD_some, Nat.add_zero] at cz
          clear hcz
          by_cases hy : y0 = -1
          · subst hy
            go_wp2_with fail
            go_ret
            exact ⟨_, [], rfl, RowAt.nil _, ⟨by simp, by simp⟩, HG.out⟩
          · have e2 : (y0 == -1) = false := by simpa using hy
            have e3 : decide (y0 = -1) = false := by simpa using hy
            go_wp2_with fail
            go_ret
            exact ⟨_, _, rfl, HA.out, hsm, HG.out⟩
        · have e4 : decide (p0.length = 1) = false := by simpa using hp1
          have e5 : (((p0.length : Nat) : Int) == 1) = false := by simp; omega
          have e6 : ¬ ((p0.length : Nat) : Int) = 1 := by omega
          go_wp2_with fail
          go_ret
          exact ⟨_, _, rfl, HA.out, hsm, HG.out⟩
      · obtain ⟨xa, xc, rfl, hxc, hxi⟩ := id hA
        have HX := Lib.hid hxi
        have HG := Lib.hid hG
        have HA := Lib.hid hA
        clear hxi hG hO hA hr6
        have e4 : decide (r.length = 1) = false := by simpa using hr1
        have e5 : (((r.length : Nat) : Int) == 1) = false := by simp; omega
        have e6 : ¬ ((r.length : Nat) : Int) = 1 := by omega
        rcases Nat.lt_or_ge r.length lm.length with l1 | l1
        · have e1 : decide (r.length < lm.length) = true := by simpa using l1
          have e2 : decide (r.length < 16) = false := by
            rcases Nat.lt_or_ge r.length 16 with l2 | l2
            · exact absurd ⟨l1, l2⟩ hlt
            · simp; omega
          have e3 : decide ((r.length : Int) < 16) = false := by simp at e2 ⊢; omega
          go_wp2_with fail
          go_ret
          exact ⟨_, _, rfl, HA.out, hsm, HG.out⟩
        · have e1 : decide (r.length < lm.length) = false := by simpa using l1
          go_wp2_with fail
          go_ret
          exact ⟨_, _, rfl, HA.out, hsm, HG.out⟩
end Go.Proofs.YtobbphkfdhjmdaaDoor

namespace Go.Proofs.YtobbphkfdhjmdaaDoor
open Go.RowKit

theorem ownsRow_set {base k : Nat} {e : TypeId} {w : World} {v : Value} {n : Nat} {xs : List Value} {x : Value} {g cap : Nat} (hv : v = .slice (some ⟨g, 0, none⟩) n cap) (h : w.ownsRow base e 1 v n xs) (hk : k < n) : (w.setCell ⟨g, k, none⟩ x).ownsRow base e 1 v n (xs.set k x) := by
  obtain ⟨hl, h1⟩ := h
  refine ⟨by simpa using hl, ?_⟩
  rcases h1 with ⟨rfl, h3⟩ | ⟨g', cap', cur, rfl, hb, hh, hc, hm, hs, ht⟩
  · exact absurd hk (by omega)
  · cases hv
    refine .inr ⟨g, cap, cur.setIfInBounds k x, rfl, hb, ?_, hc, hm, by simpa using hs, ?_⟩
    · simp [World.setCell, Array.getElem?_modify, hh]
    · rw [Array.toList_setIfInBounds, List.take_set, ht]
theorem RowAt.sl {w : World} {v : Value} {r : List (List Int)} (h : RowAt w v r) : ∃ a c, v = .slice a r.length c := by
  obtain ⟨a, c, e, -⟩ := h
  exact ⟨a, c, e⟩
theorem OwnRow.open {base : Nat} {t : TypeId} {w : World} {v : Value} {r : List (List Int)} {vs : List Value} (h : OwnRow base t w v r vs) {n : Nat} (hn : r.length = n + 1) :
    ∃ g cap, v = .slice (some ⟨g, 0, none⟩) (n + 1) cap ∧ v.ownBlock = some g ∧ base ≤ g ∧ g < w.heap.size ∧ (∀ j, w.frozen? ⟨g, j, none⟩ = false) ∧ (n : Int) + 1 ≤ cap ∧ ∃ s, w.cell? ⟨g, n, none⟩ = some s ∧ IntsAt w s (r[n]?.getD []) ∧ ∀ b, s.ownBlock = some b → b < w.heap.size ∧ b ≠ g := by
  obtain ⟨⟨hl, h1⟩, h2⟩ := h
  rcases h1 with ⟨rfl, h3⟩ | ⟨g, cap, cur, rfl, hb, hh, hc, hm, hs, ht⟩
  · omega
  · obtain ⟨s, hs1, hs2, hs3⟩ := h2 n (by omega)
    refine ⟨g, cap, by rw [hn], rfl, hb, (Array.getElem?_eq_some_iff.1 hh).1, fun j => frozen_of_row w g j _ t hh, by omega, s, ?_, hs2, fun b e => ⟨(hs3 b e).1, fun e2 => (hs3 b e).2 (by rw [e2]; rfl)⟩⟩
    rw [cell_of_row w g n cur t (0, 0) hh]
    have h4 : (cur.toList.take (r.length * 1))[n]? = vs[n]? := by rw [ht]
    rw [List.getElem?_take, if_pos (by omega), hs1] at h4
    simpa using h4
theorem IntsAt.setCell {w : World} {s x : Value} {p : List Int} {g k : Nat} (h : IntsAt w s p) (hd : ∀ b, s.ownBlock = some b → b ≠ g) : IntsAt (w.setCell ⟨g, k, none⟩ x) s p := by
  obtain ⟨a, cap, rfl, hc, hi⟩ := h
  refine ⟨a, cap, rfl, hc, fun hne => ?_⟩
  obtain ⟨b, off, rfl, hb, hcell⟩ := hi hne
  refine ⟨b, off, rfl, by simpa using hb, fun i hi => ?_⟩
  rw [World.cell?_setCell_other _ _ _ _ (fun e => hd b rfl (by injection e with e; exact e.symm))]
  exact hcell i hi
theorem OwnRow.set {base k : Nat} {t : TypeId} {w : World} {v s : Value} {r : List (List Int)} {vs : List Value} {q : List Int} {g n cap : Nat} (hv : v = .slice (some ⟨g, 0, none⟩) n cap) (h : OwnRow base t w v r vs) (hk : k < r.length) (hs : IntsAt w s q) (hd : ∀ b, s.ownBlock = some b → b < w.heap.size ∧ b ≠ g) : OwnRow base t (w.setCell ⟨g, k, none⟩ s) v (r.set k q) (vs.set k s) := by
  obtain ⟨h1, h2⟩ := h
  have hvl : vs.length = r.length := by simpa using h1.1
  have hn : n = r.length := by
    rcases h1.2 with ⟨rfl, h3⟩ | ⟨g', cap', cur, rfl, -⟩
    · omega
    · injection hv with e1 e2
      exact e2.symm
  subst hn
  refine ⟨?_, fun i hi => ?_⟩
  · rw [List.length_set]
    exact ownsRow_set hv h1 hk
  · rw [List.length_set] at hi
    by_cases e : i = k
    · subst e
      exact ⟨s, by rw [List.getElem?_set_self (by omega)], by rw [List.getElem?_set_self hk]; exact hs.setCell (fun b e => (hd b e).2), fun b e => ⟨by simpa using (hd b e).1, fun e2 => (hd b e).2 (by subst hv; injection e2 with e2; exact e2.symm)⟩⟩
    · obtain ⟨s', h3, h4, h5⟩ := h2 i hi
      refine ⟨s', by rw [List.getElem?_set_ne (fun e' => e e'.symm)]; exact h3, ?_, fun b e => ⟨by simpa using (h5 b e).1, (h5 b e).2⟩⟩
      rw [List.getElem?_set_ne (fun e' => e e'.symm)]
      exact h4.setCell (fun b e e2 => (h5 b e).2 (by subst hv; rw [e2]; rfl))
theorem ints_told {w w' : World} {bs os : Nat} {p : List Int} (hb : bs < w.heap.size) (hc : ∀ i, i < p.length → w.cell? ⟨bs, os + i, none⟩ = some (.int .i64 (p[i]?.getD 0))) (g : Grows w w') : ∀ j u, (p.map (Value.int .i64 ·))[j]? = some u → w'.cell? ((⟨bs, os, none⟩ : Addr).add j) = some u := by
  intro j u h
  rw [List.getElem?_map] at h
  cases hq : p[j]? with
  | none => simp [hq] at h
  | some q =>
    obtain rfl : Value.int .i64 q = u := by simpa [hq] using h
    have := hc j (List.getElem?_eq_some_iff.1 hq).1
    rw [hq, Option.getD_some] at this
    rw [Addr.add_lit]
    exact (g.cellOf hb).trans this
theorem Grows.frozen {w w' : World} (h : Grows w w') {n : Nat} (hn : n < w.heap.size) (j : Nat) : w'.frozen? ⟨n, j, none⟩ = w.frozen? ⟨n, j, none⟩ := by
  obtain ⟨e, d, rfl⟩ := h
  rw [ext_frozen _ _ _ _ _ hn]
def T24 : List Int := [0, 1, 2, 4, 5, 7, 21, 22, 24, 30, 38, 39, 48, 48, 53, 55, 58, 58, 97, 107, 200, 255, 256, -1]
def Z24 : Array Value := (List.replicate 24 (Value.int .i64 0)).toArray
theorem alloc24 (w : World) (ρ : Operand → Value) {o : Oper} (ho : o.op = .alloc 89) : (execOp ρ o).run Tryd.prog w = .ok (.value (.pointer (some ⟨w.heap.size, 0, none⟩))) (w.alloc (.cells Z24 89)) := by
  simp [execOp, ho, go_sem]
  rfl
set_option maxRecDepth 100000 in
set_option maxHeartbeats 20000000 in
theorem near_any (pb : Option Addr) (cm : Nat) (lm : List Int) (w : World) (hm : IntsIn w .u8 pb lm) (hmr : ∀ x ∈ lm, 0 ≤ x ∧ x < 256) (hlm : lm.length ≤ 9223372036854775807) :
    Calls Tryd.prog 21 #[.slice pb lm.length cm] w (SomeRow w) := by
  obtain ⟨i0, hi, hz0, hz1, hz2⟩ := info_parts infoPar
  obtain ⟨j0, ji, jz0, jz1, jz2⟩ := info_parts info3t
  have HM := Lib.hid hm
  have HMR := Lib.hid hmr
  clear hm hmr
  go_enter Tryd.func21, Tryd.ntmps21
  go_upto_region 1 with fail
  apply wp_region_lit
  refine wpList_buildFlatArrTo rfl 89 3 24 _ rfl .i64 T24 (some 8) rfl Tryd.underlying89 (by as_aux_lemma => kernel_rfl) (by as_aux_lemma => kernel_rfl) (by as_aux_lemma => kernel_rfl) ?_
  refine Great.wpList_allocTo rfl (some 3) rfl (.pointer (some ⟨w.heap.size, 0, none⟩)) (.cells Z24 89) (alloc24 _ _ rfl) ?_
  refine wpList_store_rowTo rfl 89 _ _ rfl rfl w.heap.size (T24.map (Value.int .i64)).toArray rfl rfl 89 Z24 (heap_alloc_new w _) (by as_aux_lemma => kernel_rfl) (by as_aux_lemma => kernel_rfl) (by as_aux_lemma => kernel_rfl) ?_
  apply wpList_nil
  go_upto_region 2 with fail
  refine abs_worldM (fun W => Grows w W ∧ w.heap.size < W.heap.size ∧ ∀ i, i < 24 → W.cell? ⟨w.heap.size, i, none⟩ = some (.int .i64 (T24[i]?.getD 0))) ⟨Grows.setRowK ((Grows.refl w).alloc _) (Nat.le_refl _) _, by simp, fun i hi => ?_⟩ ?_
  · rw [cell_of_row _ w.heap.size i (T24.map (Value.int .i64)).toArray 89 (0, 0) (setRow_heap _ _ _ _ _ _ (heap_alloc_new w _))]
    have h1 : i < T24.length := hi
    simp [List.getElem?_eq_getElem h1]
  rintro wx ⟨hGx, hxx, hTx⟩
  have HTx := Lib.hid hTx
  have HGx := Lib.hid hGx
  clear hGx hTx
  go_wp2_with fail
  go_loopw [4, 5] (fun x i wr' => ∃ (wv : World) (ii : Nat) (r : List (List Int)) (vs : List Value), wv = wr' ∧ (ii ≤ lm.length ∧ ii % 2 = 0) ∧ i = .int .i64 ii ∧ Grows wx wv ∧ OwnRow wx.heap.size 38 wv x r vs ∧ r.length ≤ 16 ∧ ∀ p ∈ r, 1 ≤ p.length ∧ p.length ≤ 6) (fun _ i _ => lm.length + 1 - (intOf i).toNat)
  case atStart => exact ⟨_, 0, [], [], rfl, by omega, rfl, (by repeat' (first | (with_reducible exact Grows.refl _) | (with_reducible refine Grows.alloc ?_ _) | (with_reducible refine Grows.drew ?_) | (with_reducible refine Grows.ext ?_ _ _))), OwnRow.nil _ _ _, by simp, by simp⟩
  case round =>
    obtain ⟨wa, ii, r, vs, rfl, hi16, rfl, hG, hO, hrl, hr6⟩ := hrel
    have hR := RowAt.sl hO.at_
    obtain ⟨xa, xc, rfl⟩ := hR
    by_cases hlt : ii + 1 < lm.length ∧ r.length < 16
    · obtain ⟨l1, l2⟩ := hlt
      have e1 : decide ((ii : Int) + 1 < lm.length) = true := by simp; omega
      have e2 : decide ((r.length : Int) < 16) = true := by simp; omega
      obtain ⟨bm, om, rfl, hbm, hcm⟩ := HM.out (by intro e; subst e; simp at l1)
      have hbx := Nat.lt_of_lt_of_le hbm HGx.out.size
      have dm := (hG.cellOf hbx).trans ((HGx.out.cellOf hbm).trans (hcm ii (by omega)))
      have dn := (hG.cellOf hbx).trans ((HGx.out.cellOf hbm).trans (hcm (ii + 1) l1))
      have rm := HMR.out (lm[ii]'(by omega)) (List.getElem_mem (by omega))
      have rn := HMR.out (lm[ii + 1]'l1) (List.getElem_mem l1)
      rw [List.getElem?_eq_getElem (by omega), Option.getD_some] at dm
      rw [List.getElem?_eq_getElem l1, Option.getD_some] at dn
      generalize lm[ii]'(by omega) = mm at *
      generalize lm[ii + 1]'l1 = nn at *
      obtain ⟨rm0, rm1⟩ := rm
      obtain ⟨rn0, rn1⟩ := rn
      obtain ⟨ix, hix⟩ : ∃ ix : Nat, mm % 24 = ix := ⟨(mm % 24).toNat, by omega⟩
      have dt := (hG.cellOf hxx).trans (HTx.out ix (by omega))
      generalize T24[ix]?.getD 0 = tv at dt
      have hix24 : ix < 24 := by omega
      have hsx := hG.size
      have HG := Lib.hid hG
      have HO := Lib.hid hO
      have HR6 := Lib.hid hr6
      clear hcm hG hO hr6
      have hO1 := HO.out.grows ((Grows.refl wa).alloc (.cells #[.int .i64 tv] 3))
      have HO1 := Lib.hid hO1
      clear hO1
      have hxl : ∀ b, (Value.slice xa r.length xc).ownBlock = some b → wx.heap.size ≤ b ∧ b < wa.heap.size := HO.out.1.lt
      have HXL := Lib.hid hxl
      clear hxl
      by_cases hnn : nn % 4 > 0
      · have e3 : decide (nn % 4 > 0) = true := by simpa using hnn
        go_wp2_with (at_builtin; refine wpList_append_own_at _ rfl (.tmp 40) (.tmp 44) 29 rfl wx.heap.size 38 i0 (.agg #[.slice none 0 0]) 1 24 Tryd.underlying29 hi hz0 hz1 hz2 rfl (by decide) _ _ _ rfl (HO1.out.1.alloc _) ⟨wa.heap.size + 1, 0, none⟩ 1 1 [.slice (some ⟨wa.heap.size, 0, none⟩) 1 1] rfl rfl (cell_at (by simp)) (by simp [Value.oneCell']) (by unfold maxLen; omega) (by omega) (by simp; omega) ?_; intro v' w1 hown' hgrow _ hat)
        have hO2 := HO1.out.snoc (told_ints (l := [tv]) (heap_alloc_new wa _)) (fun b e => by
          have hb : wa.heap.size = b := Option.some.inj e
          exact ⟨by simp; omega, fun e2 => by have := (HXL.out b e2).2; omega⟩) (by simpa using hown') hgrow (by simpa [go_sem] using hat)
        have hG3 : Grows wx w1 := Grows.appended ((HG.out.alloc _).alloc _) hgrow (fun q e => (HXL.out q e).1)
        go_roundw
        case rel =>
          refine ⟨_, ii + 2, r ++ [[tv]], _, rfl, by omega, by go_num, hG3, hO2, by simp; omega, fun p hp => ?_⟩
          rcases List.mem_append.1 hp with hp | hp
          · exact HR6.out p hp
          · obtain rfl : p = [tv] := by simpa using hp
            simp
        case measure => simp [intOf]; omega
      · have e3 : decide (nn % 4 > 0) = false := by simpa using hnn
        by_cases hr0 : r.length = 0
        · have e4 : decide (r.length = 0) = true := by simpa using hr0
          go_wp2_with (at_builtin; refine wpList_append_own_at _ rfl (.tmp 40) (.tmp 44) 29 rfl wx.heap.size 38 i0 (.agg #[.slice none 0 0]) 1 24 Tryd.underlying29 hi hz0 hz1 hz2 rfl (by decide) _ _ _ rfl (HO1.out.1.alloc _) ⟨wa.heap.size + 1, 0, none⟩ 1 1 [.slice (some ⟨wa.heap.size, 0, none⟩) 1 1] rfl rfl (cell_at (by simp)) (by simp [Value.oneCell']) (by unfold maxLen; omega) (by omega) (by simp; omega) ?_; intro v' w1 hown' hgrow _ hat)
          have hO2 := HO1.out.snoc (told_ints (l := [tv]) (heap_alloc_new wa _)) (fun b e => by
            have hb : wa.heap.size = b := Option.some.inj e
            exact ⟨by simp; omega, fun e2 => by have := (HXL.out b e2).2; omega⟩) (by simpa using hown') hgrow (by simpa [go_sem] using hat)
          have hG3 : Grows wx w1 := Grows.appended ((HG.out.alloc _).alloc _) hgrow (fun q e => (HXL.out q e).1)
          go_roundw
          case rel =>
            refine ⟨_, ii + 2, r ++ [[tv]], _, rfl, by omega, by go_num, hG3, hO2, by simp; omega, fun p hp => ?_⟩
            rcases List.mem_append.1 hp with hp | hp
            · exact HR6.out p hp
            · obtain rfl : p = [tv] := by simpa using hp
              simp
          case measure => simp [intOf]; omega
        · have e4 : decide (r.length = 0) = false := by simpa using hr0
          obtain ⟨n, hn⟩ : ∃ n, r.length = n + 1 := ⟨r.length - 1, by omega⟩
          have hk1 : (r.length : Int) - 1 = n := by omega
          have hnr : n < r.length := by omega
          obtain ⟨g, cap, hx1, hx2, hgb, hgl, hfz, hcap, s, hs1, hs2, hs3⟩ := HO.out.open hn
          have hp6 := HR6.out (r[n]'hnr) (List.getElem_mem hnr)
          rw [List.getElem?_eq_getElem hnr, Option.getD_some] at hs2
          generalize hpr : r[n]'hnr = p at *
          obtain ⟨sa, sc, rfl, hsc, hsi⟩ := hs2
          have hxa : xa = some ⟨g, 0, none⟩ := by injection hx1
          subst hxa
          clear hx1 hx2
          have HF := Lib.hid hfz
          have HSI := Lib.hid hsi
          have HS3 := Lib.hid hs3
          clear hfz hsi hs3
          by_cases h6 : p.length < 6
          · have e5 : decide (p.length < 6) = true := by simpa using h6
            obtain ⟨bs, os, rfl, hbs, hcs⟩ := HSI.out (by intro e; subst e; simp at hp6)
            have HCS := Lib.hid hcs
            clear hcs
            go_wp2_with (first | (at_builtin; refine wpList_append_grows _ rfl (.tmp 58) (.tmp 63) 36 rfl 3 j0 (.int .i64 0) 1 8 Tryd.underlying36 ji jz0 jz1 jz2 rfl (by decide) (some ⟨wa.heap.size, 0, none⟩) 0 0 [] rfl (fun h => by cases h) (by simp) (fun b e j u h => by simp at h) ⟨bs, os, none⟩ p.length sc (p.map (Value.int .i64 ·)) rfl (by simp) (ints_told hbs HCS.out ((Grows.refl wa).alloc _)) (by simp [Value.oneCell']) (by omega) (by unfold maxLen; omega) (by omega) ?_; intro v2 w2 hown2 hgrow2; have hz2' := hgrow2.size) | (at_builtin; refine wpList_append_own _ rfl (.tmp 64) (.tmp 66) 36 rfl (wa.heap.size + 1) 3 j0 (.int .i64 0) 1 8 Tryd.underlying36 ji jz0 jz1 jz2 rfl (by decide) _ _ _ rfl ((show w2.ownsRow (wa.heap.size + 1) 3 1 v2 _ _ by simpa using hown2).alloc _) ⟨w2.heap.size, 0, none⟩ 1 1 [.int .i64 tv] rfl rfl (cell_one_new _ _ _) (by simp [Value.oneCell']) (by unfold maxLen; omega) (by omega) (by simp at hz2' ⊢; omega) ?_; intro v3 w3 hown3 hgrow3 _; have hG4 : Grows wa w3 := Grows.appended ((Grows.trans ((Grows.refl wa).alloc _) (grows_by hgrow2)).alloc _) hgrow3 (fun q e => by have := (hown2.lt q e).1; simp at this; omega); obtain ⟨g', cap', rfl⟩ := ownsRow_succ hown3; have hs1' := (hG4.cellOf hgl).trans hs1; have hf1' := (hG4.frozen hgl n).trans (HF.out n)))
            have hO5 := OwnRow.set rfl (HO.out.grows hG4) hnr (ints_of_owns (base := wa.heap.size + 1) (t := 3) (l := p ++ [tv]) (by simpa using hown3)) (fun b e => ⟨(hown3.lt b e).2, fun e2 => by have := (hown3.lt b e).1; omega⟩)
            rw [hn] at hO5
            go_roundw
            case rel =>
              refine ⟨_, ii + 2, r.set n (p ++ [tv]), _, rfl, by omega, by go_num, (HG.out.trans hG4).setCell hgb _, hO5, by rw [List.length_set]; exact hrl, fun q hq => ?_⟩
              rcases List.mem_or_eq_of_mem_set hq with hq | rfl
              · exact HR6.out q hq
              · simp; omega
            case measure => simp [intOf]; omega
          · have e5 : decide (p.length < 6) = false := by simpa using h6
            go_wp2_with fail
            go_roundw
            case rel => exact ⟨_, ii + 2, r, _, rfl, by omega, by go_num, HG.out, HO.out, hrl, HR6.out⟩
            case measure => simp [intOf]; omega
    · have HO := Lib.hid hO
      have hsm : Small r := ⟨hrl, fun p hp => (hr6 p hp).2⟩
      have HG := Lib.hid hG
      clear hO hr6 hG
      rcases Nat.lt_or_ge (ii + 1) lm.length with l1 | l1
      · have e1 : decide ((ii : Int) + 1 < lm.length) = true := by simp; omega
        have e2 : decide ((r.length : Int) < 16) = false := by simp; omega
        go_wp2_with fail
        go_ret
        exact ⟨_, _, rfl, HO.out.at_, hsm, HGx.out.trans HG.out⟩
      · have e1 : decide ((ii : Int) + 1 < lm.length) = false := by simp; omega
        go_wp2_with fail
        go_ret
        exact ⟨_, _, rfl, HO.out.at_, hsm, HGx.out.trans HG.out⟩
end Go.Proofs.YtobbphkfdhjmdaaDoor

namespace Go.Proofs.YtobbphkfdhjmdaaDoor
open Go.RowKit

theorem acts_in {w : World} {a : Option Addr} {n c : Nat} {l : List ActV} (h : ActsAt w (.slice a n c) l) : ActsIn w a l := by
  obtain ⟨a', c', e, -, h⟩ := h
  injection e with e1 e2 e3
  subst e1
  exact h
theorem ix71_0 (a b : Option Addr) (n m c d : Nat) (w : World) : (Instr.index 71 (.agg #[.slice a n c, .slice b m d]) (.int .i64 0)).run Tryd.prog w = .ok (.slice a n c) w := by kernel_rfl
theorem ix71_1 (a b : Option Addr) (n m c d : Nat) (w : World) : (Instr.index 71 (.agg #[.slice a n c, .slice b m d]) (.int .i64 1)).run Tryd.prog w = .ok (.slice b m d) w := by kernel_rfl
theorem index0 (w : World) (ρ : Operand → Value) {o : Oper} (ho : o.op = .index 71 (.tmp 20) (.tmp 21)) {a b : Option Addr} {n m c d : Nat} (h1 : ρ (.tmp 20) = .agg #[.slice a n c, .slice b m d]) (h2 : ρ (.tmp 21) = .int .i64 0) : (execOp ρ o).run Tryd.prog w = .ok (.value (.slice a n c)) w := by
  simp [execOp, ho, h1, h2, ix71_0]
theorem index1 (w : World) (ρ : Operand → Value) {o : Oper} (ho : o.op = .index 71 (.tmp 20) (.tmp 21)) {a b : Option Addr} {n m c d : Nat} (h1 : ρ (.tmp 20) = .agg #[.slice a n c, .slice b m d]) (h2 : ρ (.tmp 21) = .int .i64 1) : (execOp ρ o).run Tryd.prog w = .ok (.value (.slice b m d)) w := by
  simp [execOp, ho, h1, h2, ix71_1]
set_option maxRecDepth 100000 in
set_option maxHeartbeats 20000000 in
theorem sound_true (pa pb pn : Option Addr) (cp cm cn : Nat) (lp lm ln : List Int) (w : World) (hp : IntsIn w .u16 pa lp) (hm : IntsIn w .u8 pb lm) (hn : IntsIn w .u8 pn ln) (hpr : ∀ x ∈ lp, 0 ≤ x ∧ x < 65536) (hmr : ∀ x ∈ lm, 0 ≤ x ∧ x < 256) (hnr : ∀ x ∈ ln, 0 ≤ x ∧ x < 256)
    (hlp : lp.length ≤ 9223372036854775807) (hlm : lm.length ≤ 9223372036854775807) (hln : ln.length ≤ 9223372036854775807) (hg : GL w) (ht : GT w) :
    Calls Tryd.prog 9 #[.agg #[.slice pa lp.length cp, .slice pb lm.length cm], .slice pn ln.length cn] w (Ret (.bool true) w) := by
  have HROW := Lib.hid fun W (hW : Grows w W) => row_any pa pb cp cm lp lm W (hp.grows hW) (hm.grows hW) hpr hmr hlp hlm
  have HNEAR := Lib.hid fun W (hW : Grows w W) => near_any pn cn ln W (hn.grows hW) hnr hln
  unfold SomeRow at HROW HNEAR
  have HGL := Lib.hid hg
  have HGT := Lib.hid ht
  clear hp hm hn hpr hmr hnr hlp hlm hln hg ht
  go_enter Tryd.func9, Tryd.ntmps9
  go_wp2_with (first | (go_at_call 15; (with_reducible refine (works_true _ (HGL.out.grows ?hg1) (HGT.out.grows ?hg2)).mono ?hm1); (case hg1 => exact (by repeat' (first | (with_reducible exact Grows.refl _) | (with_reducible refine Grows.alloc ?_ _) | (with_reducible refine Grows.drew ?_) | (with_reducible refine Grows.ext ?_ _ _)))); (case hg2 => exact (by repeat' (first | (with_reducible exact Grows.refl _) | (with_reducible refine Grows.alloc ?_ _) | (with_reducible refine Grows.drew ?_) | (with_reducible refine Grows.ext ?_ _ _)))); rintro e w' ⟨rfl, h1, d1, rfl⟩) | (go_at_call 20; (with_reducible refine (HROW.out _ ?hr1).mono ?hr2); (case hr1 => exact (by repeat' (first | (with_reducible exact Grows.refl _) | (with_reducible refine Grows.alloc ?_ _) | (with_reducible refine Grows.drew ?_) | (with_reducible refine Grows.ext ?_ _ _)))); rintro e wr ⟨xr, r1, rfl, hR1, hS1, hGr1⟩; obtain ⟨ar, cr, rfl⟩ := row_len hR1; have hW1 : Grows w wr := Grows.trans (by repeat' (first | (with_reducible exact Grows.refl _) | (with_reducible refine Grows.alloc ?_ _) | (with_reducible refine Grows.drew ?_) | (with_reducible refine Grows.ext ?_ _ _))) hGr1) | (go_at_call 21; (with_reducible refine (HNEAR.out wr hW1).mono ?_); rintro e wn ⟨xn, r2, rfl, hR2, hS2, hGr2⟩; obtain ⟨an, cn2, rfl⟩ := row_len hR2))
  have hW2 : Grows w wn := hW1.trans hGr2
  have hR1' := hR1.grows hGr2
  clear hR1 hGr1 hGr2 hW1
  go_loopw [21] (fun i wr' => ∃ (wv : World) (k : Nat), wv = wr' ∧ k ≤ 2 ∧ i = .int .i64 k ∧ Grows wn wv) (fun i _ => 2 - (intOf i).toNat)
  case atStart => exact ⟨_, 0, rfl, by omega, rfl, (by repeat' (first | (with_reducible exact Grows.refl _) | (with_reducible refine Grows.alloc ?_ _) | (with_reducible refine Grows.drew ?_) | (with_reducible refine Grows.ext ?_ _ _)))⟩
  case round =>
    obtain ⟨wa, k, rfl, hk, rfl, hG⟩ := hrel
    by_cases hlt : k < 2
    · obtain rfl | rfl : k = 0 ∨ k = 1 := by omega
      · have hRa := hR1'.grows hG
        have hpl : ∀ p ∈ r1, p.length ≤ 100000 := fun p hp => by have := hS1.2 p hp; omega
        have hr16 : r1.length ≤ 16 := hS1.1
        have hrl : r1.length ≤ 100000 := by omega
        have hWa : Grows w wa := hW2.trans hG
        have HPe := Lib.hid (sgrPens_any _ r1 hrl hpl wa hRa (HGL.out.grows hWa))
        have HCk := Lib.hid fun W (hW : Grows wa W) => check_row _ r1 hrl hpl W (hRa.grows hW)
        have hs := pensOf_sound r1
        have HWa := Lib.hid hWa
        have HG := Lib.hid hG
        clear hRa hpl hWa hG
        go_upto_region 5 with fail
        apply wp_region_lit
        refine Great.wpList_readTo rfl (some 23) rfl (.slice ar r1.length cr) (index0 _ _ rfl rfl rfl) ?_
        refine Great.wpList_readTo rfl (some 6) rfl (.slice ar r1.length cr) (by simp [execOp, go_sem]) ?_
        apply wpList_nil
        cases hok : okRow r1 with
        | false =>
          have hPE : pensErr r1 = 150 := by simp [pensErr, hok]
          have hPO : pensOf r1 = [] := by simp [pensOf, hok]
          rw [hPE, hPO] at HPe
          rw [hPE] at HCk
          clear hs hPE hPO hok hrl
          go_wp2_with (first | (go_at_call 14; (with_reducible refine HPe.out.mono ?_); rintro e w2 ⟨x2, rfl, hx2, hg2⟩; obtain ⟨a2, c2, rfl⟩ := pens_len (l := []) hx2) | (go_at_call 27; (with_reducible refine (HCk.out w2 hg2).mono ?_); rintro e w' ⟨rfl, h3, d3, rfl⟩))
          go_roundw
          case rel => exact ⟨_, 0 + 1, rfl, by omega, by go_num, (HG.out.trans hg2).trans (by repeat' (first | (with_reducible exact Grows.refl _) | (with_reducible refine Grows.alloc ?_ _) | (with_reducible refine Grows.drew ?_) | (with_reducible refine Grows.ext ?_ _ _)))⟩
          case measure => simp [intOf]; try omega
        | true =>
          have hPE : pensErr r1 = 0 := by simp [pensErr, hok]
          rw [hPE] at HPe HCk
          clear hPE hok hrl
          generalize pensOf r1 = l at *
          obtain ⟨hs1, hs2⟩ := hs
          have hl16 : l.length ≤ 16 := by omega
          have e9 : decide ((l.length : Int) > max 1 (r1.length : Int)) = false := by simp; omega
          have HS1 := Lib.hid hs1
          clear hs1
          go_wp2_with (first | (go_at_call 14; (with_reducible refine HPe.out.mono ?_); rintro e w2 ⟨x2, rfl, hx2, hg2⟩; obtain ⟨a2, c2, rfl⟩ := pens_len (l := l) hx2) | (go_at_call 27; (with_reducible refine (HCk.out w2 hg2).mono ?_); rintro e w' ⟨rfl, h3, d3, rfl⟩))
          have hin2 := acts_in hx2
          refine abs_worldM (fun W => Grows w2 W) (by repeat' (first | (with_reducible exact Grows.refl _) | (with_reducible refine Grows.alloc ?_ _) | (with_reducible refine Grows.drew ?_) | (with_reducible refine Grows.ext ?_ _ _))) ?_
          rintro w3 hg3
          have HIN := Lib.hid hin2
          have HX2 := Lib.hid hx2
          have HG3 := Lib.hid hg3
          have HG2 := Lib.hid hg2
          clear hin2 hx2 hg3 hg2
          go_loopw [9] (fun i wr' => ∃ (wv : World) (j : Nat), wv = wr' ∧ j ≤ l.length ∧ i = .int .i64 j ∧ Grows w3 wv) (fun i _ => l.length - (intOf i).toNat)
          case atStart => exact ⟨_, 0, rfl, by omega, rfl, (by repeat' (first | (with_reducible exact Grows.refl _) | (with_reducible refine Grows.alloc ?_ _) | (with_reducible refine Grows.drew ?_) | (with_reducible refine Grows.ext ?_ _ _)))⟩
          case round =>
            obtain ⟨wb, j, rfl, hj, rfl, hGb⟩ := hrel
            by_cases hjl : j < l.length
            · have e1 : decide (j < l.length) = true := by simpa using hjl
              have hk' : (l.map actP)[j]?.getD actD = actP (l[j]'hjl) := by simp [hjl]
              obtain ⟨b, off, rfl, hb, hc⟩ := (HIN.out.grows (HG3.out.trans hGb)) (by intro e; simp at e; rw [e] at hjl; simp at hjl)
              obtain ⟨c0, c1, c2', c3, c4, c5⟩ := hc j (by simpa using hjl)
              rw [hk'] at c0 c1 c2' c3 c4 c5
              have hp := HS1.out (l[j]'hjl) (List.getElem_mem hjl)
              obtain ⟨hpn, hpm⟩ := pn_ok hp
              have HC := Lib.hid fun W => checkPen_any 39 (l[j]'hjl).n (l[j]'hjl).m (l[j]'hjl).ck (l[j]'hjl).cn ⟨#[]⟩ hpm W
              rw [hpn] at HC
              have HGb := Lib.hid hGb
              clear hpn hpm hp hk' hc hGb
              generalize l[j]'hjl = p at *
              simp only [actP] at c0 c1 c2' c3 c4 c5
              obtain ⟨pn', pm', pck, pcn⟩ := p
              dsimp only at c0 c1 c2' c3 c4 c5 HC
              go_wp2_with (first | (go_at_call 28; (with_reducible refine (HC.out _).mono ?_); rintro e w' ⟨rfl, h4, d4, rfl⟩))
              go_roundw
              case rel => exact ⟨_, j + 1, rfl, by omega, by go_num, HGb.out.trans (by repeat' (first | (with_reducible exact Grows.refl _) | (with_reducible refine Grows.alloc ?_ _) | (with_reducible refine Grows.drew ?_) | (with_reducible refine Grows.ext ?_ _ _)))⟩
              case measure => simp [intOf]; omega
            · have e1 : decide (j < l.length) = false := by simp; omega
              have hA : ActsAt wb (.slice a2 l.length c2) (l.map actP) := HX2.out.grows (HG3.out.trans hGb)
              have hWb : Grows w wb := HWa.out.trans (HG2.out.trans (HG3.out.trans hGb))
              have HPm := Lib.hid (params_ok _ l wb hA HS1.out hl16 (HGL.out.grows hWb))
              have hpe : pensErr (l.map toldP) = 0 := by simp [pensErr, told_okRow HS1.out hl16]
              have hrl' : (l.map toldP).length = l.length := by simp
              have hpl' : ∀ p ∈ l.map toldP, p.length ≤ 100000 := fun p hp => by
                obtain ⟨q, hq, rfl⟩ := List.mem_map.1 hp
                have := (okPart_iff.1 (told_okPart (HS1.out q hq))).2.1
                omega
              have HN := Lib.hid fun x W (hx : RowAt W x (l.map toldP)) (hW : Grows w W) => sgrPens_any x (l.map toldP) (by omega) hpl' W hx (HGL.out.grows hW)
              rw [hpe] at HN
              have HGn := Lib.hid (HG.out.trans (HG2.out.trans (HG3.out.trans hGb)))
              have HGb := Lib.hid hGb
              have HWb := Lib.hid hWb
              by_cases hl0 : l = []
              · have e0 : decide (0 < l.length) = false := by subst hl0; rfl
                have e0' : decide ((l.length : Int) > 0) = false := by subst hl0; rfl
                clear hpe hpl' hGb hWb hA hl0
                generalize hlr : l.map toldP = r' at *
                clear hlr
                go_wp2_with (first | (go_at_call 13; (with_reducible refine HPm.out.mono ?_); rintro e w4 ⟨x4, rfl, hx4, hg4⟩; obtain ⟨a4, c4, rfl⟩ := row_len hx4; rw [hrl'] at hx4; have hW4 : Grows w w4 := HWb.out.trans hg4) | (go_at_call 14; (with_reducible refine (HN.out _ w4 hx4 hW4).mono ?_); rintro e w5 ⟨x5, rfl, hx5, hg5⟩; obtain ⟨a5, c5, rfl⟩ := pens_len hx5))
                go_roundw
                case rel => exact ⟨_, 0 + 1, rfl, by omega, by go_num, (HGn.out.trans hg4).trans (hg5.trans (by repeat' (first | (with_reducible exact Grows.refl _) | (with_reducible refine Grows.alloc ?_ _) | (with_reducible refine Grows.drew ?_) | (with_reducible refine Grows.ext ?_ _ _))))⟩
                case measure => simp [intOf]; try omega
              · have hro := pensOf_told HS1.out hl0 hl16
                rw [hro] at HN
                have e0 : decide ((l.length : Int) > 0) = true := by
                  have : l.length ≠ 0 := fun e => hl0 (List.length_eq_zero_iff.1 e)
                  simp; omega
                have HS := Lib.hid fun x W (hx : ActsAt W x (l.map actP)) (hW : Grows wb W) => same_all (.slice a2 l.length c2) x (l.map actP) (l.map actP) (by simp; omega) (by simp; omega) W (hA.grows hW) hx
                rw [sameL_refl] at HS
                have hl0' : 0 < l.length := by simpa using e0
                clear hpe hpl' hGb hWb hA hro
                generalize hlr : l.map toldP = r' at *
                go_wp2_with (first | (go_at_call 13; (with_reducible refine HPm.out.mono ?_); rintro e w4 ⟨x4, rfl, hx4, hg4⟩; obtain ⟨a4, c4, rfl⟩ := row_len hx4; rw [hrl'] at hx4; have hW4 : Grows w w4 := HWb.out.trans hg4) | (go_at_call 14; (with_reducible refine (HN.out _ w4 hx4 hW4).mono ?_); rintro e w5 ⟨x5, rfl, hx5, hg5⟩; obtain ⟨a5, c5, rfl⟩ := pens_len hx5) | (go_at_call 23; (with_reducible refine (HS.out _ w5 hx5 (hg4.trans hg5)).mono ?_); rintro e w' ⟨rfl, h6, d6, rfl⟩))
                go_roundw
                case rel => exact ⟨_, 0 + 1, rfl, by omega, by go_num, (HGn.out.trans hg4).trans (hg5.trans (by repeat' (first | (with_reducible exact Grows.refl _) | (with_reducible refine Grows.alloc ?_ _) | (with_reducible refine Grows.drew ?_) | (with_reducible refine Grows.ext ?_ _ _))))⟩
                case measure => simp [intOf]; try omega
      · have hRa := hR2.grows hG
        have hpl : ∀ p ∈ r2, p.length ≤ 100000 := fun p hp => by have := hS2.2 p hp; omega
        have hr16 : r2.length ≤ 16 := hS2.1
        have hrl : r2.length ≤ 100000 := by omega
        have hWa : Grows w wa := hW2.trans hG
        have HPe := Lib.hid (sgrPens_any _ r2 hrl hpl wa hRa (HGL.out.grows hWa))
        have HCk := Lib.hid fun W (hW : Grows wa W) => check_row _ r2 hrl hpl W (hRa.grows hW)
        have hs := pensOf_sound r2
        have HWa := Lib.hid hWa
        have HG := Lib.hid hG
        clear hRa hpl hWa hG
        go_upto_region 5 with fail
        apply wp_region_lit
        refine Great.wpList_readTo rfl (some 23) rfl (.slice an r2.length cn2) (index1 _ _ rfl rfl rfl) ?_
        refine Great.wpList_readTo rfl (some 6) rfl (.slice an r2.length cn2) (by simp [execOp, go_sem]) ?_
        apply wpList_nil
        cases hok : okRow r2 with
        | false =>
          have hPE : pensErr r2 = 150 := by simp [pensErr, hok]
          have hPO : pensOf r2 = [] := by simp [pensOf, hok]
          rw [hPE, hPO] at HPe
          rw [hPE] at HCk
          clear hs hPE hPO hok hrl
          go_wp2_with (first | (go_at_call 14; (with_reducible refine HPe.out.mono ?_); rintro e w2 ⟨x2, rfl, hx2, hg2⟩; obtain ⟨a2, c2, rfl⟩ := pens_len (l := []) hx2) | (go_at_call 27; (with_reducible refine (HCk.out w2 hg2).mono ?_); rintro e w' ⟨rfl, h3, d3, rfl⟩))
          go_roundw
          case rel => exact ⟨_, 1 + 1, rfl, by omega, by go_num, (HG.out.trans hg2).trans (by repeat' (first | (with_reducible exact Grows.refl _) | (with_reducible refine Grows.alloc ?_ _) | (with_reducible refine Grows.drew ?_) | (with_reducible refine Grows.ext ?_ _ _)))⟩
          case measure => simp [intOf]; try omega
        | true =>
          have hPE : pensErr r2 = 0 := by simp [pensErr, hok]
          rw [hPE] at HPe HCk
          clear hPE hok hrl
          generalize pensOf r2 = l at *
          obtain ⟨hs1, hs2⟩ := hs
          have hl16 : l.length ≤ 16 := by omega
          have e9 : decide ((l.length : Int) > max 1 (r2.length : Int)) = false := by simp; omega
          have HS1 := Lib.hid hs1
          clear hs1
          go_wp2_with (first | (go_at_call 14; (with_reducible refine HPe.out.mono ?_); rintro e w2 ⟨x2, rfl, hx2, hg2⟩; obtain ⟨a2, c2, rfl⟩ := pens_len (l := l) hx2) | (go_at_call 27; (with_reducible refine (HCk.out w2 hg2).mono ?_); rintro e w' ⟨rfl, h3, d3, rfl⟩))
          have hin2 := acts_in hx2
          refine abs_worldM (fun W => Grows w2 W) (by repeat' (first | (with_reducible exact Grows.refl _) | (with_reducible refine Grows.alloc ?_ _) | (with_reducible refine Grows.drew ?_) | (with_reducible refine Grows.ext ?_ _ _))) ?_
          rintro w3 hg3
          have HIN := Lib.hid hin2
          have HX2 := Lib.hid hx2
          have HG3 := Lib.hid hg3
          have HG2 := Lib.hid hg2
          clear hin2 hx2 hg3 hg2
          go_loopw [9] (fun i wr' => ∃ (wv : World) (j : Nat), wv = wr' ∧ j ≤ l.length ∧ i = .int .i64 j ∧ Grows w3 wv) (fun i _ => l.length - (intOf i).toNat)
          case atStart => exact ⟨_, 0, rfl, by omega, rfl, (by repeat' (first | (with_reducible exact Grows.refl _) | (with_reducible refine Grows.alloc ?_ _) | (with_reducible refine Grows.drew ?_) | (with_reducible refine Grows.ext ?_ _ _)))⟩
          case round =>
            obtain ⟨wb, j, rfl, hj, rfl, hGb⟩ := hrel
            by_cases hjl : j < l.length
            · have e1 : decide (j < l.length) = true := by simpa using hjl
              have hk' : (l.map actP)[j]?.getD actD = actP (l[j]'hjl) := by simp [hjl]
              obtain ⟨b, off, rfl, hb, hc⟩ := (HIN.out.grows (HG3.out.trans hGb)) (by intro e; simp at e; rw [e] at hjl; simp at hjl)
              obtain ⟨c0, c1, c2', c3, c4, c5⟩ := hc j (by simpa using hjl)
              rw [hk'] at c0 c1 c2' c3 c4 c5
              have hp := HS1.out (l[j]'hjl) (List.getElem_mem hjl)
              obtain ⟨hpn, hpm⟩ := pn_ok hp
              have HC := Lib.hid fun W => checkPen_any 39 (l[j]'hjl).n (l[j]'hjl).m (l[j]'hjl).ck (l[j]'hjl).cn ⟨#[]⟩ hpm W
              rw [hpn] at HC
              have HGb := Lib.hid hGb
              clear hpn hpm hp hk' hc hGb
              generalize l[j]'hjl = p at *
              simp only [actP] at c0 c1 c2' c3 c4 c5
              obtain ⟨pn', pm', pck, pcn⟩ := p
              dsimp only at c0 c1 c2' c3 c4 c5 HC
              go_wp2_with (first | (go_at_call 28; (with_reducible refine (HC.out _).mono ?_); rintro e w' ⟨rfl, h4, d4, rfl⟩))
              go_roundw
              case rel => exact ⟨_, j + 1, rfl, by omega, by go_num, HGb.out.trans (by repeat' (first | (with_reducible exact Grows.refl _) | (with_reducible refine Grows.alloc ?_ _) | (with_reducible refine Grows.drew ?_) | (with_reducible refine Grows.ext ?_ _ _)))⟩
              case measure => simp [intOf]; omega
            · have e1 : decide (j < l.length) = false := by simp; omega
              have hA : ActsAt wb (.slice a2 l.length c2) (l.map actP) := HX2.out.grows (HG3.out.trans hGb)
              have hWb : Grows w wb := HWa.out.trans (HG2.out.trans (HG3.out.trans hGb))
              have HPm := Lib.hid (params_ok _ l wb hA HS1.out hl16 (HGL.out.grows hWb))
              have hpe : pensErr (l.map toldP) = 0 := by simp [pensErr, told_okRow HS1.out hl16]
              have hrl' : (l.map toldP).length = l.length := by simp
              have hpl' : ∀ p ∈ l.map toldP, p.length ≤ 100000 := fun p hp => by
                obtain ⟨q, hq, rfl⟩ := List.mem_map.1 hp
                have := (okPart_iff.1 (told_okPart (HS1.out q hq))).2.1
                omega
              have HN := Lib.hid fun x W (hx : RowAt W x (l.map toldP)) (hW : Grows w W) => sgrPens_any x (l.map toldP) (by omega) hpl' W hx (HGL.out.grows hW)
              rw [hpe] at HN
              have HGn := Lib.hid (HG.out.trans (HG2.out.trans (HG3.out.trans hGb)))
              have HGb := Lib.hid hGb
              have HWb := Lib.hid hWb
              by_cases hl0 : l = []
              · have e0 : decide (0 < l.length) = false := by subst hl0; rfl
                have e0' : decide ((l.length : Int) > 0) = false := by subst hl0; rfl
                clear hpe hpl' hGb hWb hA hl0
                generalize hlr : l.map toldP = r' at *
                clear hlr
                go_wp2_with (first | (go_at_call 13; (with_reducible refine HPm.out.mono ?_); rintro e w4 ⟨x4, rfl, hx4, hg4⟩; obtain ⟨a4, c4, rfl⟩ := row_len hx4; rw [hrl'] at hx4; have hW4 : Grows w w4 := HWb.out.trans hg4) | (go_at_call 14; (with_reducible refine (HN.out _ w4 hx4 hW4).mono ?_); rintro e w5 ⟨x5, rfl, hx5, hg5⟩; obtain ⟨a5, c5, rfl⟩ := pens_len hx5))
                go_roundw
                case rel => exact ⟨_, 1 + 1, rfl, by omega, by go_num, (HGn.out.trans hg4).trans (hg5.trans (by repeat' (first | (with_reducible exact Grows.refl _) | (with_reducible refine Grows.alloc ?_ _) | (with_reducible refine Grows.drew ?_) | (with_reducible refine Grows.ext ?_ _ _))))⟩
                case measure => simp [intOf]; try omega
              · have hro := pensOf_told HS1.out hl0 hl16
                rw [hro] at HN
                have e0 : decide ((l.length : Int) > 0) = true := by
                  have : l.length ≠ 0 := fun e => hl0 (List.length_eq_zero_iff.1 e)
                  simp; omega
                have HS := Lib.hid fun x W (hx : ActsAt W x (l.map actP)) (hW : Grows wb W) => same_all (.slice a2 l.length c2) x (l.map actP) (l.map actP) (by simp; omega) (by simp; omega) W (hA.grows hW) hx
                rw [sameL_refl] at HS
                have hl0' : 0 < l.length := by simpa using e0
                clear hpe hpl' hGb hWb hA hro
                generalize hlr : l.map toldP = r' at *
                go_wp2_with (first | (go_at_call 13; (with_reducible refine HPm.out.mono ?_); rintro e w4 ⟨x4, rfl, hx4, hg4⟩; obtain ⟨a4, c4, rfl⟩ := row_len hx4; rw [hrl'] at hx4; have hW4 : Grows w w4 := HWb.out.trans hg4) | (go_at_call 14; (with_reducible refine (HN.out _ w4 hx4 hW4).mono ?_); rintro e w5 ⟨x5, rfl, hx5, hg5⟩; obtain ⟨a5, c5, rfl⟩ := pens_len hx5) | (go_at_call 23; (with_reducible refine (HS.out _ w5 hx5 (hg4.trans hg5)).mono ?_); rintro e w' ⟨rfl, h6, d6, rfl⟩))
                go_roundw
                case rel => exact ⟨_, 1 + 1, rfl, by omega, by go_num, (HGn.out.trans hg4).trans (hg5.trans (by repeat' (first | (with_reducible exact Grows.refl _) | (with_reducible refine Grows.alloc ?_ _) | (with_reducible refine Grows.drew ?_) | (with_reducible refine Grows.ext ?_ _ _))))⟩
                case measure => simp [intOf]; try omega
    · obtain rfl : k = 2 := by omega
      go_wp2_with fail
      go_ret
      exact ⟨rfl, hW2.trans hG⟩
end Go.Proofs.YtobbphkfdhjmdaaDoor

namespace Go.Proofs.YtobbphkfdhjmdaaDoor
open Go.RowKit

open Go.ChangeShapes Go.WideShapes Go.ChangeAt Go.Deep Go.Joins
section
variable {H : Type} {enc : TypeId × Value → H} {P : Program} {w : World}
theorem ints_open {t e : TypeId} {k : IntKind} {fuel : Nat} {v : Value} {x : DataW H × List MemPlace} {sp : Nat → Bool} {held : Bool} (ht : P.underlying t = some (.slice e)) (hu : P.underlying e = some (.int k)) (hC : P.cellsOf e = 1) (h : DataW.trod enc P w 0 sp held fuel t [v] = some x) :
    ∃ (a : Option Addr) (c : Nat) (l : List Int), v = .slice a l.length c ∧ IntsIn w k a l ∧ (∀ y ∈ l, k.min ≤ y ∧ y ≤ k.max) ∧ l.length ≤ 9223372036854775807 := by
  rcases open_slice1 ht hC h with ⟨h1, -⟩ | ⟨a, len, cap, m, n, V, D, Pl, h1, hb, hl, hm, hmm, -, hx⟩
  · simp only [List.cons.injEq, and_true] at h1
    subst h1
    exact ⟨none, 0, [], rfl, fun h => absurd rfl h, fun y hy => (List.not_mem_nil hy).elim, Nat.zero_le _⟩
  · simp only [List.cons.injEq, and_true] at h1
    subst h1
    have hlm : len ≤ m := by rw [hmm]; split <;> omega
    have each : ∀ i, i < m → ∃ q : Int, (k.min ≤ q ∧ q ≤ k.max) ∧ w.cell? (a.add i) = some (.int k q) := by
      intro i hi
      obtain ⟨g1, g2⟩ := hx i hi
      obtain ⟨z0, e0, -, r0⟩ := DataW.trod_int hu g2
      simp only [List.cons.injEq, and_true] at e0
      rw [e0] at g1
      exact ⟨z0, range_wf r0, g1⟩
    obtain ⟨q, hq⟩ := choose_lt each
    refine ⟨some a, cap, (List.range len).map q, by simp, fun hne => ?_, fun y hy => ?_, by simp only [List.length_map, List.length_range]; simp only [maxLen] at hm; omega⟩
    · have h0 : 0 < len := by
        rcases Nat.eq_zero_or_pos len with e | e
        · subst e; exact absurd rfl hne
        · exact e
      have hz := (hq 0 (by omega)).2
      have hsp : a.spot = none := by simpa [Addr.add] using World.cell?_spot hz
      have hlt : a.block < w.heap.size := by simpa [Addr.add] using cell_lt hz
      obtain ⟨bl, off, spot⟩ := a
      subst hsp
      refine ⟨bl, off, rfl, hlt, fun i hi => ?_⟩
      simp only [List.length_map, List.length_range] at hi
      have h2 := (hq i (by omega)).2
      rw [add_plain] at h2
      rw [h2]
      simp [List.getElem?_range hi]
    · obtain ⟨i, hi, rfl⟩ := List.mem_map.1 hy
      exact (hq i (by have := List.mem_range.1 hi; omega)).1
end
theorem ran16 {n : Int} (h : IntKind.u16.min ≤ n ∧ n ≤ IntKind.u16.max) : 0 ≤ n ∧ n < 65536 := by
  simp [IntKind.min, IntKind.max, IntKind.signed, IntKind.bits] at h
  omega
theorem ran8 {n : Int} (h : IntKind.u8.min ≤ n ∧ n ≤ IntKind.u8.max) : 0 ≤ n ∧ n < 256 := by
  simp [IntKind.min, IntKind.max, IntKind.signed, IntKind.bits] at h
  omega
structure Nums (w : World) (k : IntKind) (top : Int) (a : Option Addr) (l : List Int) : Prop where
  cells : IntsIn w k a l
  range : ∀ y ∈ l, 0 ≤ y ∧ y < top
  small : l.length ≤ 9223372036854775807
set_option maxRecDepth 100000 in
theorem row8_open {H : Type} {enc : TypeId × Value → H} {w : World} {v : Value} {d : DataW H} {p : List MemPlace} {sp : Nat → Bool} {held : Bool} {r : Reach} {b : Nat} (hv : Value.okWide Tryd.prog w r b 53 v) (h : DataW.Trod enc Tryd.prog w 0 sp held 53 v d p) : ∃ a c l, v = .slice a l.length c ∧ Nums w .u8 256 a l := by
  obtain ⟨fuel, h⟩ := h
  obtain ⟨a, n, c, rfl⟩ := okWide_slice Tryd.underlying53 hv
  obtain ⟨a', c', l, e, h1, h2, h3⟩ := ints_open Tryd.underlying53 Tryd.underlying5 (by kernel_rfl) h
  exact ⟨a', c', l, e, h1, fun y hy => ran8 (h2 y hy), h3⟩
theorem arr2' {cs : Array Value} (h : cs.size = 2) : ∃ c0 c1 : Value, cs = #[c0, c1] := by
  obtain ⟨l⟩ := cs
  match l, h with
  | [_, _], _ => exact ⟨_, _, rfl⟩
set_option maxRecDepth 100000 in
theorem draft5_open {H : Type} {enc : TypeId × Value → H} {w : World} {v : Value} {d : DataW H} {p : List MemPlace} {sp : Nat → Bool} {held : Bool} {r : Reach} {b : Nat} (hv : Value.okWide Tryd.prog w r b 55 v) (h : DataW.Trod enc Tryd.prog w 0 sp held 55 v d p) :
    ∃ a c l a' c' l', v = .agg #[.slice a l.length c, .slice a' l'.length c'] ∧ Nums w .u16 65536 a l ∧ Nums w .u8 256 a' l' := by
  obtain ⟨fuel, h⟩ := h
  obtain ⟨cs, rfl, hsz, -⟩ := arg_struct Tryd.underlying55 hv
  obtain ⟨v0, v1, rfl⟩ := arr2' (hsz.trans (show Tryd.prog.cellsOf 55 = 2 by kernel_rfl))
  obtain ⟨y0, y1, n, -, -, t0, t1⟩ := trod_struct2 Tryd.underlying55 h
  have h52 : Tryd.prog.cellsOf 52 = 1 := by kernel_rfl
  have h53 : Tryd.prog.cellsOf 53 = 1 := by kernel_rfl
  rw [h52] at t0
  rw [h53] at t1
  obtain ⟨a, c, l, rfl, h1, h2, h3⟩ := ints_open (v := v0) Tryd.underlying52 Tryd.underlying88 (by kernel_rfl) t0
  obtain ⟨a', c', l', rfl, h1', h2', h3'⟩ := ints_open (v := v1) Tryd.underlying53 Tryd.underlying5 (by kernel_rfl) t1
  exact ⟨a, c, l, a', c', l', rfl, ⟨h1, fun y hy => ran16 (h2 y hy), h3⟩, ⟨h1', fun y hy => ran8 (h2' y hy), h3'⟩⟩
end Go.Proofs.YtobbphkfdhjmdaaDoor

