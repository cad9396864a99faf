/-
  SgrPens. A slice of parameters among the arguments.
-/
import Derived.Test.YtobbphkfdhjmdaaDoorRows
import Derived.Test.YtobbphkfdhjmdaaDoorM1
import Derived.Test.YtobbphkfdhjmdaaDoorM2
import Derived.Test.YtobbphkfdhjmdaaDoorM4
import Derived.Test.YtobbphkfdhjmdaaDoorM9
import Derived.Test.YtobbphkfdhjmdaaDoorM10
import Derived.Test.YtobbphkfdhjmdaaDoorM12
import Derived.Test.YtobbphkfdhjmdaaDoorM13
import Derived.Test.YtobbphkfdhjmdaaDoorM15
import Derived.Test.YtobbphkfdhjmdaaDoorM16
import Derived.Test.YtobbphkfdhjmdaaDoorM27
import Derived.Test.YtobbphkfdhjmdaaDoorM28
import Derived.WalkKit
import Derived.WalkSpells
import Derived.WalkLawsBesides
import Derived.Handy
import Derived.Laws.Rows
import Derived.Great.BuildSlice
import Derived.Deep.Heap
import Derived.IntWalk
import Derived.Lib.Hide
import Derived.Outline
import Derived.Deep.Light
import Derived.Deep.LoopGhost
import Derived.BigGuardPart
import Derived.BigQuiet
import Derived.Deep.QuietTactic
import Derived.Deep.RegionHeld3
import Derived.Deep.DeepCutAuto
namespace Go.Proofs.YtobbphkfdhjmdaaDoor
open Go.RowKit

theorem ix59_0 (a b e : Option Addr) (n m k c d f : Nat) (w : World) : (Instr.index 59 (.agg #[.slice a n c, .slice b m d, .slice e k f]) (.int .i64 0)).run Tryd.prog w = .ok (.slice a n c) w := by kernel_rfl
theorem kndex0 (w : World) (ρ : Operand → Value) {o : Oper} (ho : o.op = .index 59 (.tmp 19) (.tmp 20)) {a b e : Option Addr} {n m k c d f : Nat} (h1 : ρ (.tmp 19) = .agg #[.slice a n c, .slice b m d, .slice e k f]) (h2 : ρ (.tmp 20) = .int .i64 0) : (execOp ρ o).run Tryd.prog w = .ok (.value (.slice a n c)) w := by
  simp [execOp, ho, h1, h2, ix59_0]
theorem ix59_1 (a b e : Option Addr) (n m k c d f : Nat) (w : World) : (Instr.index 59 (.agg #[.slice a n c, .slice b m d, .slice e k f]) (.int .i64 1)).run Tryd.prog w = .ok (.slice b m d) w := by kernel_rfl
theorem kndex1 (w : World) (ρ : Operand → Value) {o : Oper} (ho : o.op = .index 59 (.tmp 19) (.tmp 20)) {a b e : Option Addr} {n m k c d f : Nat} (h1 : ρ (.tmp 19) = .agg #[.slice a n c, .slice b m d, .slice e k f]) (h2 : ρ (.tmp 20) = .int .i64 1) : (execOp ρ o).run Tryd.prog w = .ok (.value (.slice b m d)) w := by
  simp [execOp, ho, h1, h2, ix59_1]
theorem ix59_2 (a b e : Option Addr) (n m k c d f : Nat) (w : World) : (Instr.index 59 (.agg #[.slice a n c, .slice b m d, .slice e k f]) (.int .i64 2)).run Tryd.prog w = .ok (.slice e k f) w := by kernel_rfl
theorem kndex2 (w : World) (ρ : Operand → Value) {o : Oper} (ho : o.op = .index 59 (.tmp 19) (.tmp 20)) {a b e : Option Addr} {n m k c d f : Nat} (h1 : ρ (.tmp 19) = .agg #[.slice a n c, .slice b m d, .slice e k f]) (h2 : ρ (.tmp 20) = .int .i64 2) : (execOp ρ o).run Tryd.prog w = .ok (.value (.slice e k f)) w := by
  simp [execOp, ho, h1, h2, ix59_2]
set_option maxRecDepth 100000 in
set_option maxHeartbeats 20000000 in
theorem pens_true (v : Value) (r : List (List Int)) (hl : r.length ≤ 9223372036854775807) (hp : ∀ p ∈ r, p.length ≤ 9223372036854775807) (pa pb pn : Option Addr) (cp cm cn : Nat) (lp lm ln : List Int) (w : World) (hr : RowAt w v r) (hpi : IntsIn w .u16 pa lp) (hm : IntsIn w .u8 pb lm) (hn : IntsIn w .u8 pn ln) (hpr : ∀ x ∈ lp, 0 ≤ x ∧ x < 65536) (hmr : ∀ x ∈ lm, 0 ≤ x ∧ x < 256) (hnr : ∀ x ∈ ln, 0 ≤ x ∧ x < 256)
    (hlp : lp.length ≤ 9223372036854775807) (hlm : lm.length ≤ 9223372036854775807) (hln : ln.length ≤ 9223372036854775807) (hg : GL w) (ht : GT w) :
    Calls Tryd.prog 5 #[v, .agg #[.slice pa lp.length cp, .slice pb lm.length cm], .slice pn ln.length cn] w (Ret (.bool true) w) := by
  have HROW := Lib.hid fun W (hW : Grows w W) => row_any pa pb cp cm lp lm W (hpi.grows hW) (hm.grows hW) hpr hmr hlp hlm
  have HNEAR := Lib.hid fun W (hW : Grows w W) => near_any pn cn ln W (hn.grows hW) hnr hln
  have HSH := Lib.hid fun W (hW : Grows w W) => short_any v r hl hp W (hr.grows hW)
  unfold SomeRow at HROW HNEAR
  have HGL := Lib.hid hg
  have HGT := Lib.hid ht
  obtain ⟨av, cv, rfl⟩ := row_len hr
  have hsm : ((r.take 20).map fun p => p.take 10).length ≤ 20 ∧ ∀ p ∈ (r.take 20).map fun p => p.take 10, p.length ≤ 10 := by
    refine ⟨by simp; omega, fun p hp => ?_⟩
    obtain ⟨q, -, rfl⟩ := List.mem_map.1 hp
    simp
    omega
  have HSM := Lib.hid hsm
  clear hpi hm hn hpr hmr hnr hlp hlm hln hg ht hr hp hl hsm
  generalize ((r.take 20).map fun p => p.take 10) = r1 at *
  go_enter Tryd.func5, Tryd.ntmps5
  go_upto_region 1 with fail
  refine abs_worldM (fun W => Grows w W ∧ w.heap.size < W.heap.size ∧ W.cell? ⟨w.heap.size, 0, none⟩ = some (.slice pa lp.length cp) ∧ W.cell? ⟨w.heap.size, 1, none⟩ = some (.slice pb lm.length cm)) ⟨(by repeat' (first | (with_reducible exact Grows.refl _) | (with_reducible refine Grows.alloc ?_ _) | (with_reducible refine Grows.drew ?_) | (with_reducible refine Grows.ext ?_ _ _))), by simp, by simp [go_sem], by simp [go_sem]⟩ ?_
  rintro W0 ⟨hG0, hb0, z0, z1⟩
  have HG0 := Lib.hid hG0
  clear hG0
  refine wp_region_held_drew (S := fun w' => w'.cell? ⟨w.heap.size, 0, none⟩ = some (.slice pa lp.length cp) ∧ w'.cell? ⟨w.heap.size, 1, none⟩ = some (.slice pb lm.length cm)) (by kernel_rfl) ?_ (fun hHeld => ?_)
  · ((first | assumption | exact ⟨z0, z1⟩))
  refine wpAnyH_take (i := 0) (v := ?v304_0) rfl (by kernel_rfl) (by kernel_rfl) (by kernel_rfl) (fun _ _ _ h => h) (Or.inl ⟨by kernel_rfl, ?y304_0⟩) (by assumption) ?r304_0
  case y304_0 => ((intro w hSw; (try dsimp only at hSw); go_simp); (try with_reducible rfl))
  try simp only [Act.put, List.getElem_toArray, List.getElem_cons_zero, List.setIfInBounds_toArray, List.set_cons_zero, List.set_cons_succ]
  refine wpAnyH_take (i := 2) (v := ?v305_2) rfl (by kernel_rfl) (by kernel_rfl) (by kernel_rfl) (fun _ _ _ h => h) (Or.inl ⟨by kernel_rfl, ?y305_2⟩) (by assumption) ?r305_2
  case y305_2 => ((intro w hSw; (try dsimp only at hSw); go_simp); (try with_reducible rfl))
  try simp only [Act.put, List.getElem_toArray, List.getElem_cons_succ, List.getElem_cons_zero, List.setIfInBounds_toArray, List.set_cons_zero, List.set_cons_succ]
  refine wpAnyH_take (i := 4) (v := ?v306_4) rfl (by kernel_rfl) (by kernel_rfl) (by kernel_rfl) (fun _ _ _ h => h) (Or.inl ⟨by kernel_rfl, ?y306_4⟩) (by assumption) ?r306_4
  case y306_4 => ((intro w hSw; (try dsimp only at hSw); go_simp); (try with_reducible rfl))
  try simp only [Act.put, List.getElem_toArray, List.getElem_cons_succ, List.getElem_cons_zero, List.setIfInBounds_toArray, List.set_cons_zero, List.set_cons_succ]
  refine wpAnyH_take (i := 7) (v := ?v307_7) rfl (by kernel_rfl) (by kernel_rfl) (by kernel_rfl) (fun _ _ _ h => h) (Or.inl ⟨by kernel_rfl, ?y307_7⟩) (by assumption) ?r307_7
  case y307_7 => ((intro w hSw; (try dsimp only at hSw); go_simp); (try with_reducible rfl))
  try simp only [Act.put, List.getElem_toArray, List.getElem_cons_succ, List.getElem_cons_zero, List.setIfInBounds_toArray, List.set_cons_zero, List.set_cons_succ]
  refine wpAnyH_ready (rs := [1]) (by kernel_rfl) (by simp) ?_
  refine AllReadyH.cons rfl (fun K hK => ?_) AllReadyH.nil
  simp only [List.getElem_toArray, List.getElem_cons_succ, List.getElem_cons_zero]
  go_simp
  (go_at_call 19; (with_reducible refine (HSH.out _ ?g19).mono ?_); (case g19 => exact HG0.out.drew); rintro e w1 ⟨x1, rfl, hx1, hg1'⟩; have hg1 : Grows W0 w1 := Grows.trans (Grows.drew (Grows.refl W0)) hg1'; obtain ⟨a1, c1, rfl⟩ := row_len hx1; have hW1 : Grows w w1 := HG0.out.trans hg1; have hS1 : w1.cell? ⟨w.heap.size, 0, none⟩ = some (.slice pa lp.length cp) ∧ w1.cell? ⟨w.heap.size, 1, none⟩ = some (.slice pb lm.length cm) := ⟨(hg1.cellOf hb0).trans z0, (hg1.cellOf hb0).trans z1⟩; have hb1 := Nat.lt_of_lt_of_le hb0 hg1.size)
  refine hK.out _ _ ?_ ?_
  · ((try dsimp only); (first | assumption | exact ⟨z0, z1⟩))
  clear hK K hHeld
  intro hHeld
  try simp only [Act.put, List.getElem_toArray, List.getElem_cons_succ, List.getElem_cons_zero, List.setIfInBounds_toArray, List.set_cons_zero, List.set_cons_succ]
  refine wpAnyH_ready (rs := [3]) (by kernel_rfl) (by simp) ?_
  refine AllReadyH.cons rfl (fun K hK => ?_) AllReadyH.nil
  simp only [List.getElem_toArray, List.getElem_cons_succ, List.getElem_cons_zero]
  go_simp
  (go_at_call 20; (with_reducible refine (HROW.out w1 hW1).mono ?_); rintro e w2 ⟨x2, r2, rfl, hR2, hS2r, hg2⟩; obtain ⟨a2, c2, rfl⟩ := row_len hR2; have hW2 : Grows w w2 := hW1.trans hg2; have hS2 : w2.cell? ⟨w.heap.size, 0, none⟩ = some (.slice pa lp.length cp) ∧ w2.cell? ⟨w.heap.size, 1, none⟩ = some (.slice pb lm.length cm) := ⟨(hg2.cellOf hb1).trans hS1.1, (hg2.cellOf hb1).trans hS1.2⟩; have hb2 := Nat.lt_of_lt_of_le hb1 hg2.size)
  refine hK.out _ _ ?_ ?_
  · ((try dsimp only); (first | assumption | exact ⟨z0, z1⟩))
  clear hK K hHeld
  intro hHeld
  try simp only [Act.put, List.getElem_toArray, List.getElem_cons_succ, List.getElem_cons_zero, List.setIfInBounds_toArray, List.set_cons_zero, List.set_cons_succ]
  refine wpAnyH_ready (rs := [5]) (by kernel_rfl) (by simp) ?_
  refine AllReadyH.cons rfl (fun K hK => ?_) AllReadyH.nil
  simp only [List.getElem_toArray, List.getElem_cons_succ, List.getElem_cons_zero]
  go_simp
  (go_at_call 21; (with_reducible refine (HNEAR.out w2 hW2).mono ?_); rintro e w3 ⟨x3, r3, rfl, hR3, hS3r, hg3⟩; obtain ⟨a3, c3, rfl⟩ := row_len hR3; have hW3 : Grows w w3 := hW2.trans hg3; have hS3 : w3.cell? ⟨w.heap.size, 0, none⟩ = some (.slice pa lp.length cp) ∧ w3.cell? ⟨w.heap.size, 1, none⟩ = some (.slice pb lm.length cm) := ⟨(hg3.cellOf hb2).trans hS2.1, (hg3.cellOf hb2).trans hS2.2⟩; have hb3 := Nat.lt_of_lt_of_le hb2 hg3.size)
  refine hK.out _ _ ?_ ?_
  · ((try dsimp only); (first | assumption | exact ⟨z0, z1⟩))
  clear hK K hHeld
  intro hHeld
  try simp only [Act.put, List.getElem_toArray, List.getElem_cons_succ, List.getElem_cons_zero, List.setIfInBounds_toArray, List.set_cons_zero, List.set_cons_succ]
  refine wpAnyH_take (i := 6) (v := ?v311_6) rfl (by kernel_rfl) (by kernel_rfl) (by kernel_rfl) (fun _ _ _ h => h) (Or.inl ⟨by kernel_rfl, ?y311_6⟩) (by assumption) ?r311_6
  case y311_6 => ((intro w hSw; (try dsimp only at hSw); go_simp); (try with_reducible rfl))
  try simp only [Act.put, List.getElem_toArray, List.getElem_cons_succ, List.getElem_cons_zero, List.setIfInBounds_toArray, List.set_cons_zero, List.set_cons_succ]
  refine wpAnyH_done (by kernel_rfl) ?_ _
  clear hHeld
  go_wp2_with fail
  refine abs_worldM (fun V => Grows w3 V) (by repeat' (first | (with_reducible exact Grows.refl _) | (with_reducible refine Grows.drew ?_) | (with_reducible refine Grows.ext ?_ _ _))) ?_
  rintro V hGV
  have HX1 := Lib.hid (hx1.grows (hg2.trans (hg3.trans hGV)))
  have HX2 := Lib.hid (hR2.grows (hg3.trans hGV))
  have HX3 := Lib.hid (hR3.grows hGV)
  have HW := Lib.hid (hW3.trans hGV)
  have HS2 := Lib.hid (And.intro (Nat.le_trans hS2r.1 (by omega : 16 ≤ 20)) hS2r.2)
  have HS3 := Lib.hid (And.intro (Nat.le_trans hS3r.1 (by omega : 16 ≤ 20)) hS3r.2)
  clear hx1 hR2 hR3 hg1 hg1' hg2 hg3 hW1 hW2 hW3 hS1 hS2 hS3 hS2r hS3r hb0 hb1 hb2 hb3 hGV z0 z1
  go_loopw [20] (fun i wr' => ∃ (wv : World) (k : Nat), wv = wr' ∧ k ≤ 3 ∧ i = .int .i64 k ∧ Grows V wv) (fun i _ => 3 - (intOf i).toNat)
  case atStart => exact ⟨_, 0, rfl, by omega, rfl, Grows.refl _⟩
  case round =>
    obtain ⟨wa, k, rfl, hk, rfl, hG⟩ := hrel
    by_cases hlt : k < 3
    · obtain rfl | rfl | rfl : k = 0 ∨ k = 1 ∨ k = 2 := by omega
      · skip
        have hRa := HX1.out.grows hG
        have hpl : ∀ p ∈ r1, p.length ≤ 100000 := fun p hp => by have := HSM.out.2 p hp; omega
        have hr16 : r1.length ≤ 20 := HSM.out.1
        have hrl : r1.length ≤ 100000 := by omega
        have HPe := Lib.hid (sgrPens_any _ r1 hrl hpl wa hRa (HGL.out.grows (HW.out.trans hG)))
        have HP22 := Lib.hid fun W (hW : Grows wa W) => pens22_any _ r1 hrl hpl W (hRa.grows hW)
        have hs := (pensOf_sound r1).2
        have HS := Lib.hid fun x y W (hx : ActsAt W x ((pensOf r1).map actP)) (hy : ActsAt W y ((pensOf r1).map actP)) => same_all x y ((pensOf r1).map actP) ((pensOf r1).map actP) (by simp; omega) (by simp; omega) W hx hy
        rw [sameL_refl] at HS
        have HG := Lib.hid hG
        clear hs hpl hrl hG hRa
        generalize pensErr r1 = er at *
        generalize pensOf r1 = l at *
        go_upto_region 3 with fail
        apply wp_region_lit
        refine Great.wpList_readTo rfl (some 22) rfl (.slice a1 r1.length c1) (kndex0 _ _ rfl rfl rfl) ?_
        refine Great.wpList_readTo rfl (some 8) rfl (.slice a1 r1.length c1) (by simp [execOp, go_sem]) ?_
        apply wpList_nil
        go_wp2_with (first | (go_at_call 14; (with_reducible refine HPe.out.mono ?_); rintro e w2 ⟨x2, rfl, hx2, hg2⟩; obtain ⟨a2, c2, rfl⟩ := pens_len hx2) | (go_at_call 22; (with_reducible refine (HP22.out w2 hg2).mono ?_); rintro e w3 ⟨x3, rfl, hx3, hg3⟩; obtain ⟨a3, c3, rfl⟩ := pens_len hx3) | (go_at_call 23; (with_reducible refine (HS.out _ _ w3 (hx2.grows hg3) hx3).mono ?_); rintro e w' ⟨rfl, h4, d4, rfl⟩))
        go_roundw
        case rel => exact ⟨_, 0 + 1, rfl, by omega, by go_num, (HG.out.trans hg2).trans (hg3.trans (by repeat' (first | (with_reducible exact Grows.refl _) | (with_reducible refine Grows.alloc ?_ _) | (with_reducible refine Grows.drew ?_) | (with_reducible refine Grows.ext ?_ _ _))))⟩
        case measure => simp [intOf]; try omega
      · skip
        have hRa := HX2.out.grows hG
        have hpl : ∀ p ∈ r2, p.length ≤ 100000 := fun p hp => by have := HS2.out.2 p hp; omega
        have hr16 : r2.length ≤ 20 := HS2.out.1
        have hrl : r2.length ≤ 100000 := by omega
        have HPe := Lib.hid (sgrPens_any _ r2 hrl hpl wa hRa (HGL.out.grows (HW.out.trans hG)))
        have HP22 := Lib.hid fun W (hW : Grows wa W) => pens22_any _ r2 hrl hpl W (hRa.grows hW)
        have hs := (pensOf_sound r2).2
        have HS := Lib.hid fun x y W (hx : ActsAt W x ((pensOf r2).map actP)) (hy : ActsAt W y ((pensOf r2).map actP)) => same_all x y ((pensOf r2).map actP) ((pensOf r2).map actP) (by simp; omega) (by simp; omega) W hx hy
        rw [sameL_refl] at HS
        have HG := Lib.hid hG
        clear hs hpl hrl hG hRa
        generalize pensErr r2 = er at *
        generalize pensOf r2 = l at *
        go_upto_region 3 with fail
        apply wp_region_lit
        refine Great.wpList_readTo rfl (some 22) rfl (.slice a2 r2.length c2) (kndex1 _ _ rfl rfl rfl) ?_
        refine Great.wpList_readTo rfl (some 8) rfl (.slice a2 r2.length c2) (by simp [execOp, go_sem]) ?_
        apply wpList_nil
        go_wp2_with (first | (go_at_call 14; (with_reducible refine HPe.out.mono ?_); rintro e w2 ⟨x2, rfl, hx2, hg2⟩; obtain ⟨a2, c2, rfl⟩ := pens_len hx2) | (go_at_call 22; (with_reducible refine (HP22.out w2 hg2).mono ?_); rintro e w3 ⟨x3, rfl, hx3, hg3⟩; obtain ⟨a3, c3, rfl⟩ := pens_len hx3) | (go_at_call 23; (with_reducible refine (HS.out _ _ w3 (hx2.grows hg3) hx3).mono ?_); rintro e w' ⟨rfl, h4, d4, rfl⟩))
        go_roundw
        case rel => exact ⟨_, 1 + 1, rfl, by omega, by go_num, (HG.out.trans hg2).trans (hg3.trans (by repeat' (first | (with_reducible exact Grows.refl _) | (with_reducible refine Grows.alloc ?_ _) | (with_reducible refine Grows.drew ?_) | (with_reducible refine Grows.ext ?_ _ _))))⟩
        case measure => simp [intOf]; try omega
      · skip
        have hRa := HX3.out.grows hG
        have hpl : ∀ p ∈ r3, p.length ≤ 100000 := fun p hp => by have := HS3.out.2 p hp; omega
        have hr16 : r3.length ≤ 20 := HS3.out.1
        have hrl : r3.length ≤ 100000 := by omega
        have HPe := Lib.hid (sgrPens_any _ r3 hrl hpl wa hRa (HGL.out.grows (HW.out.trans hG)))
        have HP22 := Lib.hid fun W (hW : Grows wa W) => pens22_any _ r3 hrl hpl W (hRa.grows hW)
        have hs := (pensOf_sound r3).2
        have HS := Lib.hid fun x y W (hx : ActsAt W x ((pensOf r3).map actP)) (hy : ActsAt W y ((pensOf r3).map actP)) => same_all x y ((pensOf r3).map actP) ((pensOf r3).map actP) (by simp; omega) (by simp; omega) W hx hy
        rw [sameL_refl] at HS
        have HG := Lib.hid hG
        clear hs hpl hrl hG hRa
        generalize pensErr r3 = er at *
        generalize pensOf r3 = l at *
        go_upto_region 3 with fail
        apply wp_region_lit
        refine Great.wpList_readTo rfl (some 22) rfl (.slice a3 r3.length c3) (kndex2 _ _ rfl rfl rfl) ?_
        refine Great.wpList_readTo rfl (some 8) rfl (.slice a3 r3.length c3) (by simp [execOp, go_sem]) ?_
        apply wpList_nil
        go_wp2_with (first | (go_at_call 14; (with_reducible refine HPe.out.mono ?_); rintro e w2 ⟨x2, rfl, hx2, hg2⟩; obtain ⟨a2, c2, rfl⟩ := pens_len hx2) | (go_at_call 22; (with_reducible refine (HP22.out w2 hg2).mono ?_); rintro e w3 ⟨x3, rfl, hx3, hg3⟩; obtain ⟨a3, c3, rfl⟩ := pens_len hx3) | (go_at_call 23; (with_reducible refine (HS.out _ _ w3 (hx2.grows hg3) hx3).mono ?_); rintro e w' ⟨rfl, h4, d4, rfl⟩))
        go_roundw
        case rel => exact ⟨_, 2 + 1, rfl, by omega, by go_num, (HG.out.trans hg2).trans (hg3.trans (by repeat' (first | (with_reducible exact Grows.refl _) | (with_reducible refine Grows.alloc ?_ _) | (with_reducible refine Grows.drew ?_) | (with_reducible refine Grows.ext ?_ _ _))))⟩
        case measure => simp [intOf]; try omega
    · obtain rfl : k = 3 := by omega
      have HGn := Lib.hid (HW.out.trans hG)
      clear hG
      go_wp2_with (first | (go_at_call 15; (with_reducible refine (works_true _ (HGL.out.grows ?hg1_29) (HGT.out.grows ?hg2_29)).mono ?hm1_29); (case hg1_29 => exact HGn.out); (case hg2_29 => exact HGn.out); rintro e w' ⟨rfl, h1, d1, rfl⟩))
      go_ret
      exact ⟨rfl, HGn.out.trans (by repeat' (first | (with_reducible exact Grows.refl _) | (with_reducible refine Grows.alloc ?_ _) | (with_reducible refine Grows.drew ?_) | (with_reducible refine Grows.ext ?_ _ _)))⟩
end Go.Proofs.YtobbphkfdhjmdaaDoor

namespace Go.Proofs.YtobbphkfdhjmdaaDoor
open Go.RowKit

open Go.ChangeShapes Go.WideShapes Go.ChangeAt Go.Deep Go.Joins
section
variable {H : Type} {enc : TypeId × Value → H} {P : Program} {w : World}
theorem ints_openl {t e : TypeId} {k : IntKind} {fuel : Nat} {v : Value} {x : DataW H × List MemPlace} {sp : Nat → Bool} {held : Bool} (ht : P.underlying t = some (.slice e)) (hu : P.underlying e = some (.int k)) (hC : P.cellsOf e = 1) (h : DataW.trod enc P w 0 sp held fuel t [v] = some x) :
    ∃ (a : Option Addr) (c : Nat) (l : List Int), v = .slice a l.length c ∧ IntsIn w k a l ∧ (∀ y ∈ l, k.min ≤ y ∧ y ≤ k.max) ∧ l.length ≤ 9223372036854775807 ∧ l.length ≤ c := by
  obtain ⟨a, c, l, e1, h1, h2, h3⟩ := ints_open ht hu hC h
  refine ⟨a, c, l, e1, h1, h2, h3, ?_⟩
  rcases open_slice1 ht hC h with ⟨h4, -⟩ | ⟨a', len, cap, m, n, V, D, Pl, h4, hb, hl, -⟩
  · simp only [List.cons.injEq, and_true] at h4
    rw [e1] at h4
    injection h4 with _ q2 q3
    omega
  · simp only [List.cons.injEq, and_true] at h4
    rw [e1] at h4
    injection h4 with _ q2 q3
    omega
end
set_option maxRecDepth 100000 in
theorem row29_open {H : Type} {enc : TypeId × Value → H} {w : World} {v : Value} {d : DataW H} {p : List MemPlace} {sp : Nat → Bool} {held : Bool} {r : Reach} {b : Nat} (hv : Value.okWide Tryd.prog w r b 29 v) (h : DataW.Trod enc Tryd.prog w 0 sp held 29 v d p) :
    ∃ rr : List (List Int), RowAt w v rr ∧ rr.length ≤ 9223372036854775807 ∧ ∀ p ∈ rr, p.length ≤ 9223372036854775807 := by
  obtain ⟨fuel, h⟩ := h
  obtain ⟨a0, n0, c0, rfl⟩ := okWide_slice Tryd.underlying29 hv
  rcases open_slice1 Tryd.underlying29 (by kernel_rfl) h with ⟨h1, -⟩ | ⟨a, len, cap, m, n, V, D, Pl, h1, hb, hl, hm, hmm, -, hx⟩
  · have h2 : [Value.slice a0 n0 c0] = [Value.slice none 0 0] := h1
    have h1' : Value.slice a0 n0 c0 = .slice none 0 0 := by injection h2
    rw [h1']
    exact ⟨[], RowAt.nil w, by simp, fun p hp => (List.not_mem_nil hp).elim⟩
  · have h2 : [Value.slice a0 n0 c0] = [Value.slice (some a) len cap] := h1
    have h1' : Value.slice a0 n0 c0 = .slice (some a) len cap := by injection h2
    rw [h1']
    have hlm : len ≤ m := by rw [hmm]; split <;> omega
    have each : ∀ i, i < m → ∃ q : List Int, w.cell? (a.add i) = some (V i) ∧ IntsAt w (V i) q ∧ q.length ≤ 9223372036854775807 := by
      intro i hi
      obtain ⟨g1, g2⟩ := hx i hi
      obtain ⟨y0, n1, -, -, t0⟩ := trod_struct1 Tryd.underlying38 g2
      rw [show Tryd.prog.cellsOf 36 = 1 by kernel_rfl] at t0
      obtain ⟨a1, c1, l1, e1, q1, q2, q3, q4⟩ := ints_openl (v := V i) Tryd.underlying36 Tryd.underlying3 (by kernel_rfl) t0
      exact ⟨l1, g1, ⟨a1, c1, e1, q4, q1⟩, q3⟩
    obtain ⟨q, hq⟩ := choose_lt each
    refine ⟨(List.range len).map q, ⟨some a, cap, by simp, by simpa using hl, fun hne => ?_⟩, by simp only [List.length_map, List.length_range]; simp only [maxLen] at hm; omega, fun p hp => ?_⟩
    · have h0 : 0 < len := by
        rcases Nat.eq_zero_or_pos len with e | e
        · subst e; exact absurd rfl hne
        · exact e
      have hz := (hq 0 (by omega)).1
      have hsp : a.spot = none := by simpa [Addr.add] using World.cell?_spot hz
      have hlt : a.block < w.heap.size := by simpa [Addr.add] using cell_lt hz
      obtain ⟨bl, off, spot⟩ := a
      subst hsp
      refine ⟨bl, off, rfl, hlt, fun i hi => ?_⟩
      simp only [List.length_map, List.length_range] at hi
      obtain ⟨h2, h3, -⟩ := hq i (by omega)
      rw [add_plain] at h2
      refine ⟨_, h2, ?_⟩
      simpa [List.getElem?_range hi] using h3
    · obtain ⟨i, hi, rfl⟩ := List.mem_map.1 hp
      exact (hq i (by have := List.mem_range.1 hi; omega)).2.2
end Go.Proofs.YtobbphkfdhjmdaaDoor

