/-
  SgrPens: rows cut short.
-/
import Derived.Test.YtobbphkfdhjmdaaDoorRows
import Derived.Test.YtobbphkfdhjmdaaDoorM1
import Derived.Test.YtobbphkfdhjmdaaDoorM23
import Derived.Test.YtobbphkfdhjmdaaDoorM2
import Derived.Test.YtobbphkfdhjmdaaDoorM4
import Derived.Test.YtobbphkfdhjmdaaDoorM9
import Derived.Test.YtobbphkfdhjmdaaDoorM10
import Derived.Test.YtobbphkfdhjmdaaDoorM15
import Derived.Test.YtobbphkfdhjmdaaDoorM16
import Derived.WalkKit
import Derived.WalkSpells
import Derived.WalkLawsBesides
import Derived.Handy
import Derived.Laws.Rows
import Derived.Great.BuildSlice
import Derived.Deep.Heap
import Derived.IntWalk
import Derived.Lib.Hide
import Derived.Outline
import Derived.Deep.Light
import Derived.Deep.LoopGhost
import Derived.BigGuardPart
import Derived.BigQuiet
import Derived.Deep.QuietTactic
import Derived.Deep.RegionHeld3
import Derived.Deep.DeepCutAuto
import Derived.OwnWalk
import Derived.Maps.AppendAt
namespace Go.Proofs.YtobbphkfdhjmdaaDoor
open Go.RowKit

/-- The slices vs, as they read in the world w. -/
def ElemsAt (w : World) (r : List (List Int)) (vs : List Value) : Prop := vs.length = r.length ∧ ∀ i, i < r.length → ∃ s, vs[i]? = some s ∧ IntsAt w s (r[i]?.getD [])
theorem ElemsAt.snoc {w : World} {r : List (List Int)} {vs : List Value} {s : Value} {p : List Int} (h : ElemsAt w r vs) (hs : IntsAt w s p) : ElemsAt w (r ++ [p]) (vs ++ [s]) := by
  obtain ⟨hl, hv⟩ := h
  refine ⟨by simp [hl], fun i hi => ?_⟩
  simp only [List.length_append, List.length_singleton] at hi
  by_cases hir : i < r.length
  · obtain ⟨q, hq1, hq2⟩ := hv i hir
    exact ⟨q, by rw [List.getElem?_append_left (by omega)]; exact hq1, by rw [List.getElem?_append_left hir]; exact hq2⟩
  · obtain rfl : i = r.length := by omega
    exact ⟨s, by rw [← hl]; simp, by simpa using hs⟩
theorem elems_row {w w' : World} {base : Nat} {t : TypeId} {v : Value} {r : List (List Int)} {vs : List Value} {n : Nat} (hn : r.length = n) (h : ElemsAt w r vs) (g : Grows w w') (ho : w'.ownsRow base t 1 v n vs) : RowAt w' v r := by
  subst hn
  obtain ⟨-, a, c, rfl, hc, hin⟩ := ownsRow_cells ho
  refine ⟨a, c, rfl, hc, fun hne => ?_⟩
  obtain ⟨b, off, rfl, hb, hx⟩ := hin (by intro e; exact hne (List.length_eq_zero_iff.1 e))
  refine ⟨b, off, rfl, hb, fun i hi => ?_⟩
  obtain ⟨s, h1, h2⟩ := h.2 i hi
  exact ⟨s, hx i s h1, h2.grows g⟩
theorem ints_take10 {w : World} {a : Option Addr} {p : List Int} {c q : Nat} (h : IntsIn w .i64 a p) (hc : p.length ≤ c) (hq : q = min p.length 10) : IntsAt w (.slice a q c) (p.take 10) := by
  have e : (p.take 10).length = q := by rw [List.length_take, hq]; omega
  refine ⟨a, c, by rw [e], by omega, fun hne => ?_⟩
  obtain ⟨b, off, ha, hb, hx⟩ := h (by intro e; subst e; exact hne rfl)
  refine ⟨b, off, ha, hb, fun i hi => ?_⟩
  rw [e] at hi
  rw [List.getElem?_take, if_pos (by omega)]
  exact hx i (by omega)
set_option maxRecDepth 100000 in
set_option maxHeartbeats 8000000 in
theorem short_any (v : Value) (r : List (List Int)) (hl : r.length ≤ 9223372036854775807) (hp : ∀ p ∈ r, p.length ≤ 9223372036854775807) (w : World) (h : RowAt w v r) : Calls Tryd.prog 19 #[v] w (fun e w' => ∃ x, e = .returned x ∧ RowAt w' x ((r.take 20).map (·.take 10)) ∧ Grows w w') := by
  obtain ⟨a, cap, rfl, -, hin⟩ := h
  obtain ⟨i0, hi, hz0, hz1, hz2⟩ := info_parts infoPar
  have Hin := Lib.hid hin
  clear hin
  go_enter Tryd.func19, Tryd.ntmps19
  go_wp2_with fail
  go_loopw [3, 4] (fun x i wr' => ∃ (wv : World) (k : Nat) (vs : List Value), wv = wr' ∧ k ≤ r.length ∧ k ≤ 20 ∧ i = .int .i64 k ∧ Grows w wv ∧ ElemsAt w ((r.take k).map fun p => p.take 10) vs ∧ wv.ownsRow w.heap.size 38 1 x k vs) (fun _ i _ => 20 - (intOf i).toNat)
  case atStart => exact ⟨_, 0, [], rfl, Nat.zero_le _, Nat.zero_le _, rfl, Grows.refl _, ⟨rfl, fun i hi => by simp at hi⟩, World.ownsRow_nil _ _ _ _⟩
  case round =>
    obtain ⟨wa, k, vs, rfl, hk, hk20, rfl, hG, hE, hO⟩ := hrel
    have HG := Lib.hid hG
    have HO := Lib.hid hO
    by_cases hlt : k < r.length
    · have e1 : decide (k < r.length) = true := by simpa using hlt
      by_cases h20 : k < 20
      · have e2 : decide ((k : Int) < 20) = true := by rw [decide_eq_true_eq]; omega
        obtain ⟨b, off, rfl, hb, hc⟩ := Hin.out (by intro e; rw [e] at hlt; simp at hlt)
        obtain ⟨s, hs, hI⟩ := hc k hlt
        rw [List.getElem?_eq_getElem hlt, Option.getD_some] at hI
        have hpl := hp (r[k]'hlt) (List.getElem_mem hlt)
        have HX := Lib.hid (show (r.take (k + 1)).map (fun p => p.take 10) = (r.take k).map (fun p => p.take 10) ++ [(r[k]'hlt).take 10] by rw [List.take_succ_eq_append_getElem hlt, List.map_append, List.map_singleton])
        have HE := Lib.hid hE
        clear hc hE
        generalize r[k]'hlt = p at *
        generalize ((r.take k).map fun p => p.take 10) = rr at *
        obtain ⟨sa, sc, rfl, hsc, js⟩ := hI
        have c0 := (hG.cellOf hb).trans hs
        have hba := Nat.lt_of_lt_of_le hb hG.size
        obtain ⟨q, hq⟩ : ∃ q : Nat, q = min p.length 10 := ⟨_, rfl⟩
        have hmin : min (p.length : Int) 10 = (q : Int) := by omega
        have hq1 : q ≤ sc := by omega
        have hq2 : (q : Int) ≤ (sc : Int) := by omega
        have HJ := Lib.hid (ints_take10 js hsc hq)
        have hsz := hO.lt
        have hws := hG.size
        have HS := Lib.hid hs
        clear hs js hq hsc hG hO hpl
        generalize p.length = pn at *
        go_upto_region 5 with fail
        refine wp_region_held_drew (S := fun w' => w'.cell? ⟨b, off + k, none⟩ = some (.slice sa pn sc)) (by kernel_rfl) ?_ (fun hHeld => ?_)
        · ((first | assumption | (simp [go_sem, hba, c0]; done)))
        refine wpAnyH_take (i := 0) (v := ?v286_0) rfl (by kernel_rfl) (by kernel_rfl) (by kernel_rfl) (fun _ _ _ h => h) (Or.inl ⟨by kernel_rfl, ?y286_0⟩) (by assumption) ?r286_0
        case y286_0 => ((intro w hSw; (try dsimp only at hSw); go_simp); (try with_reducible rfl))
        try simp only [Act.put, List.getElem_toArray, List.getElem_cons_zero, List.setIfInBounds_toArray, List.set_cons_zero, List.set_cons_succ]
        refine wpAnyH_take (i := 1) (v := ?v287_1) rfl (by kernel_rfl) (by kernel_rfl) (by kernel_rfl) (fun _ _ _ h => h) (Or.inl ⟨by kernel_rfl, ?y287_1⟩) (by assumption) ?r287_1
        case y287_1 => ((intro w hSw; (try dsimp only at hSw); go_simp); (try with_reducible rfl))
        try simp only [Act.put, List.getElem_toArray, List.getElem_cons_succ, List.getElem_cons_zero, List.setIfInBounds_toArray, List.set_cons_zero, List.set_cons_succ]
        refine wpAnyH_take (i := 2) (v := ?v288_2) rfl (by kernel_rfl) (by kernel_rfl) (by kernel_rfl) (fun _ _ _ h => h) (Or.inl ⟨by kernel_rfl, ?y288_2⟩) (by assumption) ?r288_2
        case y288_2 => ((intro w hSw; (try dsimp only at hSw); go_simp); (try with_reducible rfl))
        try simp only [Act.put, List.getElem_toArray, List.getElem_cons_succ, List.getElem_cons_zero, List.setIfInBounds_toArray, List.set_cons_zero, List.set_cons_succ]
        refine wpAnyH_take (i := 3) (v := ?v289_3) rfl (by kernel_rfl) (by kernel_rfl) (by kernel_rfl) (fun _ _ _ h => h) (Or.inl ⟨by kernel_rfl, ?y289_3⟩) (by assumption) ?r289_3
        case y289_3 => ((intro w hSw; (try dsimp only at hSw); go_simp); (try with_reducible rfl))
        try simp only [Act.put, List.getElem_toArray, List.getElem_cons_succ, List.getElem_cons_zero, List.setIfInBounds_toArray, List.set_cons_zero, List.set_cons_succ]
        refine wpAnyH_take (i := 4) (v := ?v290_4) rfl (by kernel_rfl) (by kernel_rfl) (by kernel_rfl) (fun _ _ _ h => h) (Or.inl ⟨by kernel_rfl, ?y290_4⟩) (by assumption) ?r290_4
        case y290_4 => ((intro w hSw; (try dsimp only at hSw); go_simp); (try with_reducible rfl))
        try simp only [Act.put, List.getElem_toArray, List.getElem_cons_succ, List.getElem_cons_zero, List.setIfInBounds_toArray, List.set_cons_zero, List.set_cons_succ]
        refine wpAnyH_take (i := 5) (v := ?v291_5) rfl (by kernel_rfl) (by kernel_rfl) (by kernel_rfl) (fun _ _ _ h => h) (Or.inl ⟨by kernel_rfl, ?y291_5⟩) (by assumption) ?r291_5
        case y291_5 => ((intro w hSw; (try dsimp only at hSw); go_simp); (try with_reducible rfl))
        try simp only [Act.put, List.getElem_toArray, List.getElem_cons_succ, List.getElem_cons_zero, List.setIfInBounds_toArray, List.set_cons_zero, List.set_cons_succ]
        refine wpAnyH_take (i := 6) (v := ?v292_6) rfl (by kernel_rfl) (by kernel_rfl) (by kernel_rfl) (fun _ _ _ h => h) (Or.inl ⟨by kernel_rfl, ?y292_6⟩) (by assumption) ?r292_6
        case y292_6 => ((intro w hSw; (try dsimp only at hSw); go_simp); (try with_reducible rfl))
        try simp only [Act.put, List.getElem_toArray, List.getElem_cons_succ, List.getElem_cons_zero, List.setIfInBounds_toArray, List.set_cons_zero, List.set_cons_succ]
        refine wpAnyH_take (i := 7) (v := ?v293_7) rfl (by kernel_rfl) (by kernel_rfl) (by kernel_rfl) (fun _ _ _ h => h) (Or.inl ⟨by kernel_rfl, ?y293_7⟩) (by assumption) ?r293_7
        case y293_7 => ((intro w hSw; (try dsimp only at hSw); go_simp); (try with_reducible rfl))
        try simp only [Act.put, List.getElem_toArray, List.getElem_cons_succ, List.getElem_cons_zero, List.setIfInBounds_toArray, List.set_cons_zero, List.set_cons_succ]
        refine wpAnyH_take (i := 8) (v := ?v294_8) rfl (by kernel_rfl) (by kernel_rfl) (by kernel_rfl) (fun _ _ _ h => h) (Or.inl ⟨by kernel_rfl, ?y294_8⟩) (by assumption) ?r294_8
        case y294_8 => ((intro w hSw; (try dsimp only at hSw); go_simp); (try with_reducible rfl))
        try simp only [Act.put, List.getElem_toArray, List.getElem_cons_succ, List.getElem_cons_zero, List.setIfInBounds_toArray, List.set_cons_zero, List.set_cons_succ]
        refine wpAnyH_take (i := 9) (v := ?v295_9) rfl (by kernel_rfl) (by kernel_rfl) (by kernel_rfl) (fun _ _ _ h => h) (Or.inl ⟨by kernel_rfl, ?y295_9⟩) (by assumption) ?r295_9
        case y295_9 => ((intro w hSw; (try dsimp only at hSw); go_simp); (try with_reducible rfl))
        try simp only [Act.put, List.getElem_toArray, List.getElem_cons_succ, List.getElem_cons_zero, List.setIfInBounds_toArray, List.set_cons_zero, List.set_cons_succ]
        refine wpAnyH_take (i := 10) (v := ?v296_10) rfl (by kernel_rfl) (by kernel_rfl) (by kernel_rfl) (fun _ _ _ h => h) (Or.inl ⟨by kernel_rfl, ?y296_10⟩) (by assumption) ?r296_10
        case y296_10 => ((intro w hSw; (try dsimp only at hSw); go_simp); (try with_reducible rfl))
        try simp only [Act.put, List.getElem_toArray, List.getElem_cons_succ, List.getElem_cons_zero, List.setIfInBounds_toArray, List.set_cons_zero, List.set_cons_succ]
        refine wpAnyH_take (i := 11) (v := ?v297_11) rfl (by kernel_rfl) (by kernel_rfl) (by kernel_rfl) (fun _ _ _ h => h) (Or.inl ⟨by kernel_rfl, ?y297_11⟩) (by assumption) ?r297_11
        case y297_11 => ((intro w hSw; (try dsimp only at hSw); go_simp); (try with_reducible rfl))
        try simp only [Act.put, List.getElem_toArray, List.getElem_cons_succ, List.getElem_cons_zero, List.setIfInBounds_toArray, List.set_cons_zero, List.set_cons_succ]
        refine wpAnyH_take (i := 12) (v := ?v298_12) rfl (by kernel_rfl) (by kernel_rfl) (by kernel_rfl) (fun _ _ _ h => h) (Or.inl ⟨by kernel_rfl, ?y298_12⟩) (by assumption) ?r298_12
        case y298_12 => ((intro w hSw; (try dsimp only at hSw); go_simp); (try with_reducible rfl))
        try simp only [Act.put, List.getElem_toArray, List.getElem_cons_succ, List.getElem_cons_zero, List.setIfInBounds_toArray, List.set_cons_zero, List.set_cons_succ]
        refine wpAnyH_take (i := 13) (v := ?v299_13) rfl (by kernel_rfl) (by kernel_rfl) (by kernel_rfl) (fun _ _ _ h => h) (Or.inl ⟨by kernel_rfl, ?y299_13⟩) (by assumption) ?r299_13
        case y299_13 => ((intro w hSw; (try dsimp only at hSw); go_simp); (try with_reducible rfl))
        try simp only [Act.put, List.getElem_toArray, List.getElem_cons_succ, List.getElem_cons_zero, List.setIfInBounds_toArray, List.set_cons_zero, List.set_cons_succ]
        refine wpAnyH_take (i := 14) (v := ?v300_14) rfl (by kernel_rfl) (by kernel_rfl) (by kernel_rfl) (fun _ _ _ h => h) (Or.inl ⟨by kernel_rfl, ?y300_14⟩) (by assumption) ?r300_14
        case y300_14 => ((intro w hSw; (try dsimp only at hSw); go_simp); (try with_reducible rfl))
        try simp only [Act.put, List.getElem_toArray, List.getElem_cons_succ, List.getElem_cons_zero, List.setIfInBounds_toArray, List.set_cons_zero, List.set_cons_succ]
        refine wpAnyH_ready (rs := [15]) (by kernel_rfl) (by simp) ?_
        refine AllReadyH.cons rfl (fun K hK => ?_) AllReadyH.nil
        simp only [List.getElem_toArray, List.getElem_cons_succ, List.getElem_cons_zero]
        go_simp
        skip
        refine hK.out _ _ ?_ ?_
        · ((try dsimp only); (first | assumption | (simp [go_sem, hba, c0]; done)))
        clear hK K hHeld
        intro hHeld
        try simp only [Act.put, List.getElem_toArray, List.getElem_cons_succ, List.getElem_cons_zero, List.setIfInBounds_toArray, List.set_cons_zero, List.set_cons_succ]
        refine wpAnyH_ready (rs := [16]) (by kernel_rfl) (by simp) ?_
        refine AllReadyH.cons rfl (fun K hK => ?_) AllReadyH.nil
        simp only [List.getElem_toArray, List.getElem_cons_succ, List.getElem_cons_zero]
        rw [if_pos (by kernel_rfl)]
        (refine wp_append_own _ (.tmp 15) (.tmp 30) 29 rfl w.heap.size 38 i0 (.agg #[.slice none 0 0]) 1 24 Tryd.underlying29 hi hz0 hz1 hz2 rfl (by decide) _ k vs rfl ((owns_grows HO.out (by repeat' (first | (with_reducible exact Grows.refl _) | (with_reducible refine Grows.alloc ?_ _) | (with_reducible refine Grows.drew ?_) | (with_reducible refine Grows.ext ?_ _ _)))).alloc _) ⟨wa.heap.size, 0, none⟩ 1 1 [.slice sa q sc] rfl rfl (cell_at (by simp)) (by simp [Value.oneCell']) (by unfold maxLen; omega) (by omega) (by simp; omega) ?_; intro v' w1 hown' hgrow _; have hG2 : Grows w w1 := Grows.appended (HG.out.trans (by repeat' (first | (with_reducible exact Grows.refl _) | (with_reducible refine Grows.alloc ?_ _) | (with_reducible refine Grows.drew ?_) | (with_reducible refine Grows.ext ?_ _ _)))) hgrow (fun q e => (hsz q e).1); have hS : w1.cell? ⟨b, off + k, none⟩ = some (.slice sa pn sc) := (hG2.cellOf hb).trans HS.out)
        refine hK.out _ _ ?_ ?_
        · ((try dsimp only); (first | assumption | (simp [go_sem, hba, c0]; done)))
        clear hK K hHeld
        intro hHeld
        try simp only [Act.put, List.setIfInBounds_toArray, List.set_cons_zero, List.set_cons_succ]
        refine wpAnyH_take (i := 17) (v := ?v303_17) rfl (by kernel_rfl) (by kernel_rfl) (by kernel_rfl) (fun _ _ _ h => h) (Or.inl ⟨by kernel_rfl, ?y303_17⟩) (by assumption) ?r303_17
        case y303_17 => ((intro w hSw; (try dsimp only at hSw); go_simp); (try with_reducible rfl))
        try simp only [Act.put, List.getElem_toArray, List.getElem_cons_succ, List.getElem_cons_zero, List.setIfInBounds_toArray, List.set_cons_zero, List.set_cons_succ]
        refine wpAnyH_done (by kernel_rfl) ?_ _
        clear hHeld
        go_wp2_with fail
        have hO2 := hown'
        go_roundw
        case rel => exact ⟨_, k + 1, _, rfl, by omega, by omega, by go_num, hG2, by rw [HX.out]; exact HE.out.snoc HJ.out, hown'⟩
        case measure => simp [intOf]; omega
      · have e2 : decide ((k : Int) < 20) = false := by rw [decide_eq_false_iff_not]; omega
        have HR := Lib.hid (show RowAt wa _ ((r.take 20).map fun p => p.take 10) from elems_row (by simp; omega) (by rw [show r.take 20 = r.take k from by congr 1; omega]; exact hE) hG hO)
        clear hG hO hE
        go_wp2_with fail
        go_ret
        exact ⟨_, rfl, HR.out, HG.out⟩
    · have e1 : decide (k < r.length) = false := by simpa using hlt
      have HR := Lib.hid (show RowAt wa _ ((r.take 20).map fun p => p.take 10) from elems_row (by simp; omega) (by rw [show r.take 20 = r.take k from by rw [List.take_of_length_le (by omega), List.take_of_length_le (by omega)]]; exact hE) hG hO)
      clear hG hO hE
      go_wp2_with fail
      go_ret
      exact ⟨_, rfl, HR.out, HG.out⟩
end Go.Proofs.YtobbphkfdhjmdaaDoor

