/-
  Walk: all.
-/
import Derived.Test.YtkkhcpddpnhemaaRows
import Derived.Test.YtkkhcpddpnhemaaLt
import Derived.Test.YtkkhcpddpnhemaaDefs
import Derived.Test.YtkkhcpddpnhemaaOwn
import Derived.Test.YtkkhcpddpnhemaaVis
import Derived.Test.YtkkhcpddpnhemaaW1
import Derived.Test.YtkkhcpddpnhemaaW2
import Derived.Test.YtkkhcpddpnhemaaW3
import Derived.Test.YtkkhcpddpnhemaaW13
import Derived.WalkKit
import Derived.WalkSpells
import Derived.WalkLawsBesides
import Derived.Handy
import Derived.Outline
import Derived.Lib.Hide
import Derived.Deep.Light
import Derived.Deep.LoopGhost
import Derived.BigGuardPart
import Derived.BigQuiet
import Derived.Deep.QuietTactic
import Derived.Deep.DeepCutAuto
import Derived.Test.YtkkhcpddpnhemaaReg
namespace Go.Proofs.Ytkkhcpddpnhemaa
open Go.RowKit


theorem res_cells {w w1 : World} {v0 v1 v2 : Value} {t : TypeId} (g : Grows (w.alloc (.cells #[v0, v1, v2] t)) w1) : w1.cell? ⟨w.heap.size, 0, none⟩ = some v0 ∧ w1.cell? ⟨w.heap.size, 1, none⟩ = some v1 ∧ w1.cell? ⟨w.heap.size, 2, none⟩ = some v2 ∧ (∀ i, w1.frozen? ⟨w.heap.size, i, none⟩ = false) ∧ w.heap.size < w1.heap.size := by
  have hh : w1.heap[w.heap.size]? = some (.cells #[v0, v1, v2] t (0, 0)) := (g.below.block w.heap.size (by simp)).trans (World.alloc_heap_new w _)
  exact ⟨by rw [cell_of_row _ _ _ _ _ _ hh]; rfl, by rw [cell_of_row _ _ _ _ _ _ hh]; rfl, by rw [cell_of_row _ _ _ _ _ _ hh]; rfl, fun i => frozen_of_row _ _ _ _ _ hh, (Array.getElem?_eq_some_iff.1 hh).1⟩
theorem OwnC.other {base : Nat} {t : TypeId} {w : World} {a : Option Addr} {vs : List Value} {N i : Nat} {v : Value} (h : OwnC base t w a vs) (hN : N < base) : OwnC base t (w.setCell ⟨N, i, none⟩ v) a vs := by
  obtain ⟨g, cur, e, hb, hh, ht⟩ := h
  exact ⟨g, cur, e, hb, (heap_setCell_other w ⟨N, i, none⟩ g v (by simp only [ne_eq]; omega)).trans hh, ht⟩
theorem Own.other {base : Nat} {w : World} {a : Option Addr} {l : List Bool} {N i : Nat} {v : Value} (h : Own base w a l) (hN : N < base) : Own base (w.setCell ⟨N, i, none⟩ v) a l := OwnC.other h hN
def AllPost (w : World) (e : Ending) (W' : World) : Prop := ∃ a1 n c1 t1 a2 m c2 t2 a3 c3, e = .returned (.agg #[.slice a1 n c1, .slice a2 m c2, .slice a3 n c3]) ∧
      2 ≤ n ∧ n ≤ 80 ∧ t1.length = n ∧ Bs W' a1 t1 ∧ t2.length = m ∧ m ≤ 90 ∧ Bs W' a2 t2 ∧ Bs W' a3 (newL n) ∧ Grows w W'
set_option maxHeartbeats 2000000 in
theorem all_any (c : Int) (hc : 0 ≤ c ∧ c < 256) (a : Option Addr) (cap : Nat) (l : List Int) (hl : l.length ≤ 9223372036854775807) (at0 : Option Addr) (capt : Nat) (tl : List Bool) (htl : tl.length ≤ 9223372036854775807) (hcap : tl.length ≤ capt) (hcap2 : capt ≤ 9223372036854775807) (w : World) (ha : Us w a l) (hb : Bs w at0 tl) :
    Calls Try.prog 10 #[.int .u8 c, .slice a l.length cap, .slice at0 tl.length capt] w (AllPost w) := by
  obtain ⟨m, hm⟩ : ∃ m, m = min tl.length 90 := ⟨_, rfl⟩
  have hbt : Bs w at0 (tl.take m) := by
    rcases hb with h | ⟨b, off, e, hbl, hca⟩
    · exact .inl (by rw [h]; simp)
    · refine .inr ⟨b, off, e, hbl, fun j hj => ?_⟩
      have hj2 : j < m ∧ j < tl.length := by simp at hj; omega
      rw [hca j hj2.2]
      simp [hj2.1]
  have hlen : (tl.take m).length = m := by simp; omega
  have Hb := Lib.hid hbt
  have Hlen := Lib.hid hlen
  have Ho := Lib.hid fun W (g : Grows w W) => of_any c hc a cap l hl W (by
    obtain ⟨h1, h2⟩ := ha
    refine ⟨h1, ?_⟩
    rcases h2 with h | ⟨b, off, e, hbl, hca⟩
    · exact .inl h
    · exact .inr ⟨b, off, e, Nat.lt_of_lt_of_le hbl g.below.size, fun j hj => (g.below.cell (p := ⟨b, off + j, none⟩) hbl).trans (hca j hj)⟩)
  have hm2 : m ≤ capt := by omega
  have hm3 : (m : Int) ≤ capt := by omega
  have hpart : (tl.length ≤ 90 ∧ m = tl.length) ∨ (90 < tl.length ∧ m = 90) := by omega
  clear ha hb hbt hlen hm
  rcases hpart with ⟨hp, rfl⟩ | ⟨hp, rfl⟩
  · go_enter Try.func10, Try.ntmps10
    go_wp2_with (first | (go_at_call 23; refine (Ho.out _ (by repeat' (first | (with_reducible exact Grows.refl _) | (with_reducible assumption) | (with_reducible refine Grows.alloc ?_ _) | (with_reducible refine Grows.drew ?_) | (with_reducible refine Grows.ext ?_ _ _)))).mono ?_; rintro e w1 ⟨b, n, cp, t, rfl, hn1, hn2, ht, HO, G1⟩; have HO1 := HO.bs) | (go_at_call 27; refine (rnew_ok n _ hn1 hn2).mono ?_; rintro e w2 ⟨b3, cp3, rfl, HO3, G2⟩; obtain ⟨r0, r1, r2, f0, hlt⟩ := res_cells (Grows.trans G1 G2); have g0 := f0 0; have g1 := f0 1; have g2 := f0 2; clear f0))
    have G3 : Grows w w2 := Grows.trans ((Grows.refl w).alloc _) (Grows.trans G1 G2)
    have G4 := ((G3.setCell (Nat.le_refl _) (i := 0) (.slice b n cp)).setCell (Nat.le_refl _) (i := 1) (.slice at0 tl.length capt)).setCell (Nat.le_refl _) (i := 2) (.slice b3 n cp3)
    have hz := G1.below.size
    simp only [World.size_alloc] at hz
    refine bodyPost_ret (v := .agg #[.slice b n cp, .slice at0 tl.length capt, .slice b3 n cp3]) (by simp [results, Try.results10, go_sem, r0, r1, r2]) rfl ?_
    exact ⟨b, n, cp, t, at0, tl.length, capt, tl.take tl.length, b3, cp3, rfl, hn1, hn2, ht, (((HO.grows G2).other (by simp)).other (by simp)).other (by simp) |>.bs, Hlen.out, by omega, Hb.out.grows G4, (((HO3.other (by omega)).other (by omega)).other (by omega)).bs, G4⟩
  · go_enter Try.func10, Try.ntmps10
    go_wp2_with (first | (go_at_call 23; refine (Ho.out _ (by repeat' (first | (with_reducible exact Grows.refl _) | (with_reducible assumption) | (with_reducible refine Grows.alloc ?_ _) | (with_reducible refine Grows.drew ?_) | (with_reducible refine Grows.ext ?_ _ _)))).mono ?_; rintro e w1 ⟨b, n, cp, t, rfl, hn1, hn2, ht, HO, G1⟩; have HO1 := HO.bs) | (go_at_call 27; refine (rnew_ok n _ hn1 hn2).mono ?_; rintro e w2 ⟨b3, cp3, rfl, HO3, G2⟩; obtain ⟨r0, r1, r2, f0, hlt⟩ := res_cells (Grows.trans G1 G2); have g0 := f0 0; have g1 := f0 1; have g2 := f0 2; clear f0))
    have G3 : Grows w w2 := Grows.trans ((Grows.refl w).alloc _) (Grows.trans G1 G2)
    have G4 := ((G3.setCell (Nat.le_refl _) (i := 0) (.slice b n cp)).setCell (Nat.le_refl _) (i := 1) (.slice at0 90 capt)).setCell (Nat.le_refl _) (i := 2) (.slice b3 n cp3)
    have hz := G1.below.size
    simp only [World.size_alloc] at hz
    refine bodyPost_ret (v := .agg #[.slice b n cp, .slice at0 90 capt, .slice b3 n cp3]) (by simp [results, Try.results10, go_sem, r0, r1, r2]) rfl ?_
    exact ⟨b, n, cp, t, at0, 90, capt, tl.take 90, b3, cp3, rfl, hn1, hn2, ht, (((HO.grows G2).other (by simp)).other (by simp)).other (by simp) |>.bs, Hlen.out, by omega, Hb.out.grows G4, (((HO3.other (by omega)).other (by omega)).other (by omega)).bs, G4⟩
end Go.Proofs.Ytkkhcpddpnhemaa
