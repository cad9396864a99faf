/-
  works.
-/
import Derived.Test.YtobbphkfdhjmdaaDoorRows
import Derived.Test.YtobbphkfdhjmdaaDoorM1
import Derived.Test.YtobbphkfdhjmdaaDoorM9
import Derived.Test.YtobbphkfdhjmdaaDoorM10
import Derived.Test.YtobbphkfdhjmdaaDoorM12
import Derived.WalkKit
import Derived.WalkSpells
import Derived.WalkLawsBesides
import Derived.Handy
import Derived.Laws.Rows
import Derived.Great.BuildSlice
import Derived.Deep.Heap
import Derived.IntWalk
import Derived.Lib.Hide
import Derived.Outline
import Derived.Deep.Light
import Derived.Deep.LoopGhost
import Derived.BigGuardPart
import Derived.BigQuiet
import Derived.Deep.QuietTactic
import Derived.Deep.RegionHeld3
import Derived.Deep.DeepCutAuto
import Derived.Laws.Concat
namespace Go.Proofs.YtobbphkfdhjmdaaDoor
open Go.RowKit

theorem sy_w0 : saysB ⟨#[]⟩ [pen 0 0] = true := by decide +kernel
theorem sy_w1 : saysB ⟨#[48]⟩ [pen 0 0] = true := by decide +kernel
theorem sy_w2 : saysB ⟨#[59]⟩ [pen 0 0, pen 0 0] = true := by decide +kernel
theorem sy_w3 : saysB ⟨#[49, 59, 51, 49, 59, 52, 58, 51]⟩ [pen 1 1, colored 4 1 1, pen 3 3] = true := by decide +kernel
theorem sy_w4 : saysB ⟨#[51, 56, 59, 53, 59, 50, 48, 48, 59, 55]⟩ [colored 4 1 200, pen 1 16] = true := by decide +kernel
theorem sy_w5 : saysB ⟨#[52, 56, 58, 50, 58, 58, 49, 58, 50, 58, 51]⟩ [colored 5 2 66051] = true := by decide +kernel
theorem sy_w6 : saysB ⟨#[53, 56, 58, 50, 58, 49, 58, 50, 58, 51]⟩ [colored 6 2 66051] = true := by decide +kernel
theorem sy_w7 : saysB ⟨#[51, 56, 59, 53, 59, 50, 53, 54, 59, 49]⟩ [pen 1 1] = true := by decide +kernel
theorem sy_w8 : saysB ⟨#[51, 56, 59, 50, 59, 49, 59, 50]⟩ [] = true := by decide +kernel
theorem sy_w9 : saysB ⟨#[51, 56, 59, 49]⟩ [pen 1 1] = true := by decide +kernel
theorem sy_w10 : saysB ⟨#[57, 55, 59, 49, 48, 52, 59, 50, 49, 59, 57, 57]⟩ [colored 4 1 15, colored 5 1 12, pen 3 2] = true := by decide +kernel
theorem told_works : [pen 2 3, colored 5 1 9, pen 3 1].map toldP = [[22], [101], [4]] := by decide +kernel
theorem print_works : printT [[22], [101], [4]] = [50, 50, 59, 49, 48, 49, 59, 52] := by
  have h : okRow [[22], [101], [4]] = true := by decide +kernel
  have d4 : Lib.decDigits 4 = [52] := Lib.decDigits_one (by decide)
  have d22 : Lib.decDigits 22 = [50, 50] := Lib.decDigits_two (by decide) (by decide)
  have d101 : Lib.decDigits 101 = [49, 48, 49] := by
    rw [Lib.decDigits, dif_neg (by decide), show 101 / 10 = 10 from rfl, Lib.decDigits_two (by decide) (by decide)]
    rfl
  unfold printT
  rw [if_pos h]
  simp [rowT, paramT, partT, Lib.itoa, d4, d22, d101]
theorem print_w (x : Value) (w : World) (h : RowAt w x [[22], [101], [4]]) (ht : GT w) : Calls Tryd.prog 25 #[x] w (Ret (.tuple #[.string ⟨#[50, 50, 59, 49, 48, 49, 59, 52]⟩, .int .i64 0]) w) := by
  have := print_any x [[22], [101], [4]] (by decide) (by decide) w h ht
  rw [print_works] at this
  exact this
theorem acts_new {w : World} {g : Nat} {l : List ActV} {cs : Array Value} {n m : Nat} (hg : g = w.heap.size) (hc : cs = (actsC l).toArray) (hn : n = l.length) (hl : l.length ≤ 1000) (hm : m = l.length := by rfl) : ActsAt (w.alloc (.cells cs 26)) (.slice (some ⟨g, 0, none⟩) n m) l := by
  subst hg hc hn hm
  exact acts_at (heap_alloc_new w _) hl
theorem three_new (X : World) (o1 o2 o3 : Obj) (n : Nat) (hn : X.heap.size = n) : (((X.alloc o1).alloc o2).alloc o3).heap[n]? = some o1 ∧ (((X.alloc o1).alloc o2).alloc o3).heap[n + 1]? = some o2 ∧ (((X.alloc o1).alloc o2).alloc o3).heap[n + 1 + 1]? = some o3 := by
  subst hn
  refine ⟨?_, ?_, ?_⟩
  · rw [Below.heap_alloc _ _ _ (by simp; omega), Below.heap_alloc _ _ _ (by simp)]
    exact heap_alloc_new X o1
  · rw [Below.heap_alloc _ _ _ (by simp)]
    have := heap_alloc_new (X.alloc o1) o2
    rwa [World.size_alloc] at this
  · have := heap_alloc_new ((X.alloc o1).alloc o2) o3
    rwa [World.size_alloc, World.size_alloc] at this
theorem act_cells {W : World} {B : Nat} {p : Pen} (h : W.heap[B]? = some (actO p)) : B < W.heap.size ∧ W.cell? ⟨B, 0, none⟩ = some (.int .i64 39) ∧ W.cell? ⟨B, 1, none⟩ = some (.int .i64 p.n) ∧ W.cell? ⟨B, 2, none⟩ = some (.int .i64 p.m) ∧ W.cell? ⟨B, 3, none⟩ = some (.int .i64 p.ck) ∧ W.cell? ⟨B, 4, none⟩ = some (.int .i64 p.cn) ∧ W.cell? ⟨B, 5, none⟩ = some (.string ⟨#[]⟩) :=
  ⟨(Array.getElem?_eq_some_iff.1 h).1, (cell_of_row W B 0 _ 26 (0, 0) h).trans rfl, (cell_of_row W B 1 _ 26 (0, 0) h).trans rfl, (cell_of_row W B 2 _ 26 (0, 0) h).trans rfl, (cell_of_row W B 3 _ 26 (0, 0) h).trans rfl, (cell_of_row W B 4 _ 26 (0, 0) h).trans rfl, (cell_of_row W B 5 _ 26 (0, 0) h).trans rfl⟩
set_option maxRecDepth 100000 in
set_option maxHeartbeats 20000000 in
theorem works_true (w : World) (hg : GL w) (ht : GT w) : Calls Tryd.prog 15 #[] w (Ret (.bool true) w) := by
  go_enter Tryd.func15, Tryd.ntmps15
  go_upto_region 2 with (first | (go_at_call 11; (with_reducible refine (pen11_any 0 0 _).mono ?_); rintro e w' ⟨rfl, hA, dA, rfl⟩) | (go_at_call 11; (with_reducible refine (pen11_any 1 1 _).mono ?_); rintro e w' ⟨rfl, hB, dB, rfl⟩) | (go_at_call 11; (with_reducible refine (pen11_any 1 16 _).mono ?_); rintro e w' ⟨rfl, hC, dC, rfl⟩))
  have hn : (ext w (hA ++ (hB ++ hC)) dC).heap.size = w.heap.size + (hA.size + (hB.size + hC.size)) := by simp
  generalize w.heap.size + (hA.size + (hB.size + hC.size)) = N at *
  refine abs_worldM (fun W => Grows w W ∧ W.heap[N]? = some (actO (pen 0 0)) ∧ W.heap[N + 1]? = some (actO (pen 1 1)) ∧ W.heap[N + 1 + 1]? = some (actO (pen 1 16))) ⟨(by repeat' (first | (with_reducible exact Grows.refl _) | (with_reducible refine Grows.alloc ?_ _) | (with_reducible refine Grows.drew ?_) | (with_reducible refine Grows.ext ?_ _ _))), three_new _ _ _ _ N hn⟩ ?_
  clear hn
  rintro wr ⟨hG, b1, b2, b3⟩
  have HGL := Lib.hid (hg.grows hG)
  have HGT := Lib.hid (ht.grows hG)
  obtain ⟨l1, c10, c11, c12, c13, c14, c15⟩ := act_cells b1
  obtain ⟨l2, c20, c21, c22, c23, c24, c25⟩ := act_cells b2
  obtain ⟨l3, c30, c31, c32, c33, c34, c35⟩ := act_cells b3
  simp only [pen] at c11 c12 c13 c14 c21 c22 c23 c24 c31 c32 c33 c34
  have HW := Lib.hid hG
  clear b1 b2 b3 hG hg ht
  generalize N + 1 + 1 = N3 at *
  generalize N + 1 = N2 at *
  go_cut [4] (fun s4 wx => s4 = .bool true ∧ Grows wr wx)
  case first =>
    refine wp_region_held_drew (S := fun w' => Grows wr w') (by kernel_rfl) ?_ (fun hHeld => ?_)
    · exact (by repeat' (first | (with_reducible exact Grows.refl _) | (with_reducible refine Grows.alloc ?_ _) | (with_reducible refine Grows.drew ?_) | (with_reducible refine Grows.ext ?_ _ _)))
    refine wpAnyH_take (i := 0) (v := ?v66_0) rfl (by kernel_rfl) (by kernel_rfl) (by kernel_rfl) (fun _ _ _ h => h) (Or.inl ⟨by kernel_rfl, ?y66_0⟩) (by assumption) ?r66_0
    case y66_0 => (intro wS hSw; obtain ⟨hhS, ddS, rfl⟩ := hSw; go_simp; (try with_reducible rfl))
    try simp only [Act.put, List.getElem_toArray, List.getElem_cons_zero, List.setIfInBounds_toArray, List.set_cons_zero, List.set_cons_succ]
    refine wpAnyH_ready (rs := [1]) (by kernel_rfl) (by simp) ?_
    refine AllReadyH.cons rfl (fun K hK => ?_) AllReadyH.nil
    simp only [List.getElem_toArray, List.getElem_cons_succ, List.getElem_cons_zero]
    go_simp
    skip
    refine hK.out _ _ ?_ ?_
    · exact (by repeat' (first | (with_reducible exact Grows.refl _) | (with_reducible refine Grows.alloc ?_ _) | (with_reducible refine Grows.drew ?_) | (with_reducible refine Grows.ext ?_ _ _)))
    clear hK K hHeld
    intro hHeld
    try simp only [Act.put, List.getElem_toArray, List.getElem_cons_succ, List.getElem_cons_zero, List.setIfInBounds_toArray, List.set_cons_zero, List.set_cons_succ]
    refine wpAnyH_ready (rs := [2]) (by kernel_rfl) (by simp) ?_
    refine AllReadyH.cons rfl (fun K hK => ?_) AllReadyH.nil
    simp only [List.getElem_toArray, List.getElem_cons_succ, List.getElem_cons_zero]
    go_simp
    ((with_reducible refine (says_true ⟨#[]⟩ _ [pen 0 0] _ sy_w0 ?hacs2 (HGL.out.grows ?hgls2)).mono ?hmains2); (case hgls2 => exact (by repeat' (first | (with_reducible exact Grows.refl _) | (with_reducible refine Grows.alloc ?_ _) | (with_reducible refine Grows.drew ?_) | (with_reducible refine Grows.ext ?_ _ _)))); (case hacs2 => exact acts_new (by simp) rfl rfl (by simp)); rintro e w' ⟨rfl, hs2, ds2, rfl⟩)
    refine hK.out _ _ ?_ ?_
    · exact (by repeat' (first | (with_reducible exact Grows.refl _) | (with_reducible refine Grows.alloc ?_ _) | (with_reducible refine Grows.drew ?_) | (with_reducible refine Grows.ext ?_ _ _)))
    clear hK K hHeld
    intro hHeld
    try simp only [Act.put, List.getElem_toArray, List.getElem_cons_succ, List.getElem_cons_zero, List.setIfInBounds_toArray, List.set_cons_zero, List.set_cons_succ]
    refine wpAnyH_take (i := 3) (v := ?v69_3) rfl (by kernel_rfl) (by kernel_rfl) (by kernel_rfl) (fun _ _ _ h => h) (Or.inl ⟨by kernel_rfl, ?y69_3⟩) (by assumption) ?r69_3
    case y69_3 => (intro wS hSw; obtain ⟨hhS, ddS, rfl⟩ := hSw; go_simp; (try with_reducible rfl))
    try simp only [Act.put, List.getElem_toArray, List.getElem_cons_succ, List.getElem_cons_zero, List.setIfInBounds_toArray, List.set_cons_zero, List.set_cons_succ]
    refine wpAnyH_take (i := 4) (v := ?v70_4) rfl (by kernel_rfl) (by kernel_rfl) (by kernel_rfl) (fun _ _ _ h => h) (Or.inl ⟨by kernel_rfl, ?y70_4⟩) (by assumption) ?r70_4
    case y70_4 => (intro wS hSw; obtain ⟨hhS, ddS, rfl⟩ := hSw; go_simp; (try with_reducible rfl))
    try simp only [Act.put, List.getElem_toArray, List.getElem_cons_succ, List.getElem_cons_zero, List.setIfInBounds_toArray, List.set_cons_zero, List.set_cons_succ]
    refine wpAnyH_ready (rs := [5]) (by kernel_rfl) (by simp) ?_
    refine AllReadyH.cons rfl (fun K hK => ?_) AllReadyH.nil
    simp only [List.getElem_toArray, List.getElem_cons_succ, List.getElem_cons_zero]
    go_simp
    skip
    refine hK.out _ _ ?_ ?_
    · exact (by repeat' (first | (with_reducible exact Grows.refl _) | (with_reducible refine Grows.alloc ?_ _) | (with_reducible refine Grows.drew ?_) | (with_reducible refine Grows.ext ?_ _ _)))
    clear hK K hHeld
    intro hHeld
    try simp only [Act.put, List.getElem_toArray, List.getElem_cons_succ, List.getElem_cons_zero, List.setIfInBounds_toArray, List.set_cons_zero, List.set_cons_succ]
    refine wpAnyH_ready (rs := [6]) (by kernel_rfl) (by simp) ?_
    refine AllReadyH.cons rfl (fun K hK => ?_) AllReadyH.nil
    simp only [List.getElem_toArray, List.getElem_cons_succ, List.getElem_cons_zero]
    go_simp
    ((with_reducible refine (says_true ⟨#[48]⟩ _ [pen 0 0] _ sy_w1 ?hacs6 (HGL.out.grows ?hgls6)).mono ?hmains6); (case hgls6 => exact (by repeat' (first | (with_reducible exact Grows.refl _) | (with_reducible refine Grows.alloc ?_ _) | (with_reducible refine Grows.drew ?_) | (with_reducible refine Grows.ext ?_ _ _)))); (case hacs6 => exact acts_new (by simp) rfl rfl (by simp)); rintro e w' ⟨rfl, hs6, ds6, rfl⟩)
    refine hK.out _ _ ?_ ?_
    · exact (by repeat' (first | (with_reducible exact Grows.refl _) | (with_reducible refine Grows.alloc ?_ _) | (with_reducible refine Grows.drew ?_) | (with_reducible refine Grows.ext ?_ _ _)))
    clear hK K hHeld
    intro hHeld
    try simp only [Act.put, List.getElem_toArray, List.getElem_cons_succ, List.getElem_cons_zero, List.setIfInBounds_toArray, List.set_cons_zero, List.set_cons_succ]
    refine wpAnyH_take (i := 7) (v := ?v73_7) rfl (by kernel_rfl) (by kernel_rfl) (by kernel_rfl) (fun _ _ _ h => h) (Or.inl ⟨by kernel_rfl, ?y73_7⟩) (by assumption) ?r73_7
    case y73_7 => (intro wS hSw; obtain ⟨hhS, ddS, rfl⟩ := hSw; go_simp; (try with_reducible rfl))
    try simp only [Act.put, List.getElem_toArray, List.getElem_cons_succ, List.getElem_cons_zero, List.setIfInBounds_toArray, List.set_cons_zero, List.set_cons_succ]
    refine wpAnyH_take (i := 8) (v := ?v74_8) rfl (by kernel_rfl) (by kernel_rfl) (by kernel_rfl) (fun _ _ _ h => h) (Or.inl ⟨by kernel_rfl, ?y74_8⟩) (by assumption) ?r74_8
    case y74_8 => (intro wS hSw; obtain ⟨hhS, ddS, rfl⟩ := hSw; go_simp; (try with_reducible rfl))
    try simp only [Act.put, List.getElem_toArray, List.getElem_cons_succ, List.getElem_cons_zero, List.setIfInBounds_toArray, List.set_cons_zero, List.set_cons_succ]
    refine wpAnyH_take (i := 9) (v := ?v75_9) rfl (by kernel_rfl) (by kernel_rfl) (by kernel_rfl) (fun _ _ _ h => h) (Or.inl ⟨by kernel_rfl, ?y75_9⟩) (by assumption) ?r75_9
    case y75_9 => (intro wS hSw; obtain ⟨hhS, ddS, rfl⟩ := hSw; go_simp; (try with_reducible rfl))
    try simp only [Act.put, List.getElem_toArray, List.getElem_cons_succ, List.getElem_cons_zero, List.setIfInBounds_toArray, List.set_cons_zero, List.set_cons_succ]
    refine wpAnyH_take (i := 10) (v := ?v76_10) rfl (by kernel_rfl) (by kernel_rfl) (by kernel_rfl) (fun _ _ _ h => h) (Or.inl ⟨by kernel_rfl, ?y76_10⟩) (by assumption) ?r76_10
    case y76_10 => (intro wS hSw; obtain ⟨hhS, ddS, rfl⟩ := hSw; go_simp; (try with_reducible rfl))
    try simp only [Act.put, List.getElem_toArray, List.getElem_cons_succ, List.getElem_cons_zero, List.setIfInBounds_toArray, List.set_cons_zero, List.set_cons_succ]
    refine wpAnyH_ready (rs := [11]) (by kernel_rfl) (by simp) ?_
    refine AllReadyH.cons rfl (fun K hK => ?_) AllReadyH.nil
    simp only [List.getElem_toArray, List.getElem_cons_succ, List.getElem_cons_zero]
    go_simp
    skip
    refine hK.out _ _ ?_ ?_
    · exact (by repeat' (first | (with_reducible exact Grows.refl _) | (with_reducible refine Grows.alloc ?_ _) | (with_reducible refine Grows.drew ?_) | (with_reducible refine Grows.ext ?_ _ _)))
    clear hK K hHeld
    intro hHeld
    try simp only [Act.put, List.getElem_toArray, List.getElem_cons_succ, List.getElem_cons_zero, List.setIfInBounds_toArray, List.set_cons_zero, List.set_cons_succ]
    refine wpAnyH_ready (rs := [12]) (by kernel_rfl) (by simp) ?_
    refine AllReadyH.cons rfl (fun K hK => ?_) AllReadyH.nil
    simp only [List.getElem_toArray, List.getElem_cons_succ, List.getElem_cons_zero]
    go_simp
    ((with_reducible refine (says_true ⟨#[59]⟩ _ [pen 0 0, pen 0 0] _ sy_w2 ?hacs12 (HGL.out.grows ?hgls12)).mono ?hmains12); (case hgls12 => exact (by repeat' (first | (with_reducible exact Grows.refl _) | (with_reducible refine Grows.alloc ?_ _) | (with_reducible refine Grows.drew ?_) | (with_reducible refine Grows.ext ?_ _ _)))); (case hacs12 => exact acts_new (by simp) rfl rfl (by simp)); rintro e w' ⟨rfl, hs12, ds12, rfl⟩)
    refine hK.out _ _ ?_ ?_
    · exact (by repeat' (first | (with_reducible exact Grows.refl _) | (with_reducible refine Grows.alloc ?_ _) | (with_reducible refine Grows.drew ?_) | (with_reducible refine Grows.ext ?_ _ _)))
    clear hK K hHeld
    intro hHeld
    try simp only [Act.put, List.getElem_toArray, List.getElem_cons_succ, List.getElem_cons_zero, List.setIfInBounds_toArray, List.set_cons_zero, List.set_cons_succ]
    refine wpAnyH_take (i := 13) (v := ?v79_13) rfl (by kernel_rfl) (by kernel_rfl) (by kernel_rfl) (fun _ _ _ h => h) (Or.inl ⟨by kernel_rfl, ?y79_13⟩) (by assumption) ?r79_13
    case y79_13 => (intro wS hSw; obtain ⟨hhS, ddS, rfl⟩ := hSw; go_simp; (try with_reducible rfl))
    try simp only [Act.put, List.getElem_toArray, List.getElem_cons_succ, List.getElem_cons_zero, List.setIfInBounds_toArray, List.set_cons_zero, List.set_cons_succ]
    refine wpAnyH_take (i := 14) (v := ?v80_14) rfl (by kernel_rfl) (by kernel_rfl) (by kernel_rfl) (fun _ _ _ h => h) (Or.inl ⟨by kernel_rfl, ?y80_14⟩) (by assumption) ?r80_14
    case y80_14 => (intro wS hSw; obtain ⟨hhS, ddS, rfl⟩ := hSw; go_simp; (try with_reducible rfl))
    try simp only [Act.put, List.getElem_toArray, List.getElem_cons_succ, List.getElem_cons_zero, List.setIfInBounds_toArray, List.set_cons_zero, List.set_cons_succ]
    refine wpAnyH_take (i := 15) (v := ?v81_15) rfl (by kernel_rfl) (by kernel_rfl) (by kernel_rfl) (fun _ _ _ h => h) (Or.inl ⟨by kernel_rfl, ?y81_15⟩) (by assumption) ?r81_15
    case y81_15 => (intro wS hSw; obtain ⟨hhS, ddS, rfl⟩ := hSw; go_simp; (try with_reducible rfl))
    try simp only [Act.put, List.getElem_toArray, List.getElem_cons_succ, List.getElem_cons_zero, List.setIfInBounds_toArray, List.set_cons_zero, List.set_cons_succ]
    refine wpAnyH_ready (rs := [16]) (by kernel_rfl) (by simp) ?_
    refine AllReadyH.cons rfl (fun K hK => ?_) AllReadyH.nil
    simp only [List.getElem_toArray, List.getElem_cons_succ, List.getElem_cons_zero]
    go_simp
    ((with_reducible refine (col12_any 4 1 1 _).mono ?_); rintro e w' ⟨rfl, hp16, dp16, rfl⟩)
    refine hK.out _ _ ?_ ?_
    · exact (by repeat' (first | (with_reducible exact Grows.refl _) | (with_reducible refine Grows.alloc ?_ _) | (with_reducible refine Grows.drew ?_) | (with_reducible refine Grows.ext ?_ _ _)))
    clear hK K hHeld
    intro hHeld
    try simp only [Act.put, List.getElem_toArray, List.getElem_cons_succ, List.getElem_cons_zero, List.setIfInBounds_toArray, List.set_cons_zero, List.set_cons_succ]
    refine wpAnyH_ready (rs := [17]) (by kernel_rfl) (by simp) ?_
    refine AllReadyH.cons rfl (fun K hK => ?_) AllReadyH.nil
    simp only [List.getElem_toArray, List.getElem_cons_succ, List.getElem_cons_zero]
    go_simp
    ((with_reducible refine (pen11_any 3 3 _).mono ?_); rintro e w' ⟨rfl, hp17, dp17, rfl⟩)
    refine hK.out _ _ ?_ ?_
    · exact (by repeat' (first | (with_reducible exact Grows.refl _) | (with_reducible refine Grows.alloc ?_ _) | (with_reducible refine Grows.drew ?_) | (with_reducible refine Grows.ext ?_ _ _)))
    clear hK K hHeld
    intro hHeld
    try simp only [Act.put, List.getElem_toArray, List.getElem_cons_succ, List.getElem_cons_zero, List.setIfInBounds_toArray, List.set_cons_zero, List.set_cons_succ]
    refine wpAnyH_ready (rs := [18]) (by kernel_rfl) (by simp) ?_
    refine AllReadyH.cons rfl (fun K hK => ?_) AllReadyH.nil
    simp only [List.getElem_toArray, List.getElem_cons_succ, List.getElem_cons_zero]
    go_simp
    skip
    refine hK.out _ _ ?_ ?_
    · exact (by repeat' (first | (with_reducible exact Grows.refl _) | (with_reducible refine Grows.alloc ?_ _) | (with_reducible refine Grows.drew ?_) | (with_reducible refine Grows.ext ?_ _ _)))
    clear hK K hHeld
    intro hHeld
    try simp only [Act.put, List.getElem_toArray, List.getElem_cons_succ, List.getElem_cons_zero, List.setIfInBounds_toArray, List.set_cons_zero, List.set_cons_succ]
    refine wpAnyH_ready (rs := [19]) (by kernel_rfl) (by simp) ?_
    refine AllReadyH.cons rfl (fun K hK => ?_) AllReadyH.nil
    simp only [List.getElem_toArray, List.getElem_cons_succ, List.getElem_cons_zero]
    go_simp
    ((with_reducible refine (says_true ⟨#[49, 59, 51, 49, 59, 52, 58, 51]⟩ _ [pen 1 1, colored 4 1 1, pen 3 3] _ sy_w3 ?hacs19 (HGL.out.grows ?hgls19)).mono ?hmains19); (case hgls19 => exact (by repeat' (first | (with_reducible exact Grows.refl _) | (with_reducible refine Grows.alloc ?_ _) | (with_reducible refine Grows.drew ?_) | (with_reducible refine Grows.ext ?_ _ _)))); (case hacs19 => exact acts_new (by simp) rfl rfl (by simp)); rintro e w' ⟨rfl, hs19, ds19, rfl⟩)
    refine hK.out _ _ ?_ ?_
    · exact (by repeat' (first | (with_reducible exact Grows.refl _) | (with_reducible refine Grows.alloc ?_ _) | (with_reducible refine Grows.drew ?_) | (with_reducible refine Grows.ext ?_ _ _)))
    clear hK K hHeld
    intro hHeld
    try simp only [Act.put, List.getElem_toArray, List.getElem_cons_succ, List.getElem_cons_zero, List.setIfInBounds_toArray, List.set_cons_zero, List.set_cons_succ]
    refine wpAnyH_take (i := 20) (v := ?v86_20) rfl (by kernel_rfl) (by kernel_rfl) (by kernel_rfl) (fun _ _ _ h => h) (Or.inl ⟨by kernel_rfl, ?y86_20⟩) (by assumption) ?r86_20
    case y86_20 => (intro wS hSw; obtain ⟨hhS, ddS, rfl⟩ := hSw; go_simp; (try with_reducible rfl))
    try simp only [Act.put, List.getElem_toArray, List.getElem_cons_succ, List.getElem_cons_zero, List.setIfInBounds_toArray, List.set_cons_zero, List.set_cons_succ]
    refine wpAnyH_take (i := 21) (v := ?v87_21) rfl (by kernel_rfl) (by kernel_rfl) (by kernel_rfl) (fun _ _ _ h => h) (Or.inl ⟨by kernel_rfl, ?y87_21⟩) (by assumption) ?r87_21
    case y87_21 => (intro wS hSw; obtain ⟨hhS, ddS, rfl⟩ := hSw; go_simp; (try with_reducible rfl))
    try simp only [Act.put, List.getElem_toArray, List.getElem_cons_succ, List.getElem_cons_zero, List.setIfInBounds_toArray, List.set_cons_zero, List.set_cons_succ]
    refine wpAnyH_take (i := 23) (v := ?v88_23) rfl (by kernel_rfl) (by kernel_rfl) (by kernel_rfl) (fun _ _ _ h => h) (Or.inl ⟨by kernel_rfl, ?y88_23⟩) (by assumption) ?r88_23
    case y88_23 => (intro wS hSw; obtain ⟨hhS, ddS, rfl⟩ := hSw; go_simp; (try with_reducible rfl))
    try simp only [Act.put, List.getElem_toArray, List.getElem_cons_succ, List.getElem_cons_zero, List.setIfInBounds_toArray, List.set_cons_zero, List.set_cons_succ]
    refine wpAnyH_ready (rs := [22]) (by kernel_rfl) (by simp) ?_
    refine AllReadyH.cons rfl (fun K hK => ?_) AllReadyH.nil
    simp only [List.getElem_toArray, List.getElem_cons_succ, List.getElem_cons_zero]
    go_simp
    ((with_reducible refine (col12_any 4 1 200 _).mono ?_); rintro e w' ⟨rfl, hp22, dp22, rfl⟩)
    refine hK.out _ _ ?_ ?_
    · exact (by repeat' (first | (with_reducible exact Grows.refl _) | (with_reducible refine Grows.alloc ?_ _) | (with_reducible refine Grows.drew ?_) | (with_reducible refine Grows.ext ?_ _ _)))
    clear hK K hHeld
    intro hHeld
    try simp only [Act.put, List.getElem_toArray, List.getElem_cons_succ, List.getElem_cons_zero, List.setIfInBounds_toArray, List.set_cons_zero, List.set_cons_succ]
    refine wpAnyH_ready (rs := [24]) (by kernel_rfl) (by simp) ?_
    refine AllReadyH.cons rfl (fun K hK => ?_) AllReadyH.nil
    simp only [List.getElem_toArray, List.getElem_cons_succ, List.getElem_cons_zero]
    go_simp
    skip
    refine hK.out _ _ ?_ ?_
    · exact (by repeat' (first | (with_reducible exact Grows.refl _) | (with_reducible refine Grows.alloc ?_ _) | (with_reducible refine Grows.drew ?_) | (with_reducible refine Grows.ext ?_ _ _)))
    clear hK K hHeld
    intro hHeld
    try simp only [Act.put, List.getElem_toArray, List.getElem_cons_succ, List.getElem_cons_zero, List.setIfInBounds_toArray, List.set_cons_zero, List.set_cons_succ]
    refine wpAnyH_ready (rs := [25]) (by kernel_rfl) (by simp) ?_
    refine AllReadyH.cons rfl (fun K hK => ?_) AllReadyH.nil
    simp only [List.getElem_toArray, List.getElem_cons_succ, List.getElem_cons_zero]
    go_simp
    ((with_reducible refine (says_true ⟨#[51, 56, 59, 53, 59, 50, 48, 48, 59, 55]⟩ _ [colored 4 1 200, pen 1 16] _ sy_w4 ?hacs25 (HGL.out.grows ?hgls25)).mono ?hmains25); (case hgls25 => exact (by repeat' (first | (with_reducible exact Grows.refl _) | (with_reducible refine Grows.alloc ?_ _) | (with_reducible refine Grows.drew ?_) | (with_reducible refine Grows.ext ?_ _ _)))); (case hacs25 => exact acts_new (by simp) rfl rfl (by simp)); rintro e w' ⟨rfl, hs25, ds25, rfl⟩)
    refine hK.out _ _ ?_ ?_
    · exact (by repeat' (first | (with_reducible exact Grows.refl _) | (with_reducible refine Grows.alloc ?_ _) | (with_reducible refine Grows.drew ?_) | (with_reducible refine Grows.ext ?_ _ _)))
    clear hK K hHeld
    intro hHeld
    try simp only [Act.put, List.getElem_toArray, List.getElem_cons_succ, List.getElem_cons_zero, List.setIfInBounds_toArray, List.set_cons_zero, List.set_cons_succ]
    refine wpAnyH_take (i := 26) (v := ?v92_26) rfl (by kernel_rfl) (by kernel_rfl) (by kernel_rfl) (fun _ _ _ h => h) (Or.inl ⟨by kernel_rfl, ?y92_26⟩) (by assumption) ?r92_26
    case y92_26 => (intro wS hSw; obtain ⟨hhS, ddS, rfl⟩ := hSw; go_simp; (try with_reducible rfl))
    try simp only [Act.put, List.getElem_toArray, List.getElem_cons_succ, List.getElem_cons_zero, List.setIfInBounds_toArray, List.set_cons_zero, List.set_cons_succ]
    refine wpAnyH_take (i := 27) (v := ?v93_27) rfl (by kernel_rfl) (by kernel_rfl) (by kernel_rfl) (fun _ _ _ h => h) (Or.inl ⟨by kernel_rfl, ?y93_27⟩) (by assumption) ?r93_27
    case y93_27 => (intro wS hSw; obtain ⟨hhS, ddS, rfl⟩ := hSw; go_simp; (try with_reducible rfl))
    try simp only [Act.put, List.getElem_toArray, List.getElem_cons_succ, List.getElem_cons_zero, List.setIfInBounds_toArray, List.set_cons_zero, List.set_cons_succ]
    refine wpAnyH_done (by kernel_rfl) ?_ _
    clear hHeld
    go_wp2_with fail
    go_meet
    exact ⟨rfl, (by repeat' (first | (with_reducible exact Grows.refl _) | (with_reducible refine Grows.alloc ?_ _) | (with_reducible refine Grows.drew ?_) | (with_reducible refine Grows.ext ?_ _ _)))⟩
  case rest =>
    obtain ⟨rfl, hG2⟩ := hcut
    have HW2 := Lib.hid (HW.out.trans hG2)
    have HGL2 := Lib.hid (HGL.out.grows hG2)
    have HGT2 := Lib.hid (HGT.out.grows hG2)
    have d20 := (hG2.cellOf l2).trans c20
    have d21 := (hG2.cellOf l2).trans c21
    have d22 := (hG2.cellOf l2).trans c22
    have d23 := (hG2.cellOf l2).trans c23
    have d24 := (hG2.cellOf l2).trans c24
    have d25 := (hG2.cellOf l2).trans c25
    have m2 := Nat.lt_of_lt_of_le l2 hG2.size
    clear c10 c11 c12 c13 c14 c15 c20 c21 c22 c23 c24 c25 c30 c31 c32 c33 c34 c35 l1 l2 l3 hG2 HW HGL HGT
    go_upto_region 3 with fail
    go_cut [5] (fun s5 wx => s5 = .bool true ∧ Grows wc wx)
    case first =>
      go_wp2_with (first | (go_at_call 10; (with_reducible refine (says_true ⟨#[52, 56, 58, 50, 58, 58, 49, 58, 50, 58, 51]⟩ _ [colored 5 2 66051] _ sy_w5 ?hacq5 (HGL2.out.grows ?hglq5)).mono ?hmainq5); (case hglq5 => exact (by repeat' (first | (with_reducible exact Grows.refl _) | (with_reducible refine Grows.alloc ?_ _) | (with_reducible refine Grows.drew ?_) | (with_reducible refine Grows.ext ?_ _ _)))); (case hacq5 => exact acts_new (by simp) rfl rfl (by simp)); rintro e w' ⟨rfl, hq5, dq5, rfl⟩) | (go_at_call 10; (with_reducible refine (says_true ⟨#[53, 56, 58, 50, 58, 49, 58, 50, 58, 51]⟩ _ [colored 6 2 66051] _ sy_w6 ?hacq6 (HGL2.out.grows ?hglq6)).mono ?hmainq6); (case hglq6 => exact (by repeat' (first | (with_reducible exact Grows.refl _) | (with_reducible refine Grows.alloc ?_ _) | (with_reducible refine Grows.drew ?_) | (with_reducible refine Grows.ext ?_ _ _)))); (case hacq6 => exact acts_new (by simp) rfl rfl (by simp)); rintro e w' ⟨rfl, hq6, dq6, rfl⟩) | (go_at_call 10; (with_reducible refine (says_true ⟨#[51, 56, 59, 53, 59, 50, 53, 54, 59, 49]⟩ _ [pen 1 1] _ sy_w7 ?hacq7 (HGL2.out.grows ?hglq7)).mono ?hmainq7); (case hglq7 => exact (by repeat' (first | (with_reducible exact Grows.refl _) | (with_reducible refine Grows.alloc ?_ _) | (with_reducible refine Grows.drew ?_) | (with_reducible refine Grows.ext ?_ _ _)))); (case hacq7 => exact acts_new (by simp) rfl rfl (by simp)); rintro e w' ⟨rfl, hq7, dq7, rfl⟩) | (go_at_call 10; (with_reducible refine (says_true ⟨#[51, 56, 59, 50, 59, 49, 59, 50]⟩ (.slice none 0 0) [] _ sy_w8 (ActsAt.nil _) (HGL2.out.grows ?hglq8)).mono ?hmainq8); (case hglq8 => exact (by repeat' (first | (with_reducible exact Grows.refl _) | (with_reducible refine Grows.alloc ?_ _) | (with_reducible refine Grows.drew ?_) | (with_reducible refine Grows.ext ?_ _ _)))); rintro e w' ⟨rfl, hq8, dq8, rfl⟩) | (go_at_call 10; (with_reducible refine (says_true ⟨#[51, 56, 59, 49]⟩ _ [pen 1 1] _ sy_w9 ?hacq9 (HGL2.out.grows ?hglq9)).mono ?hmainq9); (case hglq9 => exact (by repeat' (first | (with_reducible exact Grows.refl _) | (with_reducible refine Grows.alloc ?_ _) | (with_reducible refine Grows.drew ?_) | (with_reducible refine Grows.ext ?_ _ _)))); (case hacq9 => exact acts_new (by simp) rfl rfl (by simp)); rintro e w' ⟨rfl, hq9, dq9, rfl⟩) | (go_at_call 12; (with_reducible refine (col12_any 5 2 66051 _).mono ?_); rintro e w' ⟨rfl, h97, d97, rfl⟩) | (go_at_call 12; (with_reducible refine (col12_any 6 2 66051 _).mono ?_); rintro e w' ⟨rfl, h98, d98, rfl⟩))
      go_meet
      exact ⟨rfl, (by repeat' (first | (with_reducible exact Grows.refl _) | (with_reducible refine Grows.alloc ?_ _) | (with_reducible refine Grows.drew ?_) | (with_reducible refine Grows.ext ?_ _ _)))⟩
    case rest =>
      obtain ⟨rfl, hG3⟩ := hcut
      have HW3 := Lib.hid (HW2.out.trans hG3)
      have HGL3 := Lib.hid (HGL2.out.grows hG3)
      have HGT3 := Lib.hid (HGT2.out.grows hG3)
      clear d20 d21 d22 d23 d24 d25 m2 hG3 HW2 HGL2 HGT2
      go_wp2_with (first | (go_at_call 10; (with_reducible refine (says_true ⟨#[57, 55, 59, 49, 48, 52, 59, 50, 49, 59, 57, 57]⟩ _ [colored 4 1 15, colored 5 1 12, pen 3 2] _ sy_w10 ?hacr10 (HGL3.out.grows ?hglr10)).mono ?hmainr10); (case hglr10 => exact (by repeat' (first | (with_reducible exact Grows.refl _) | (with_reducible refine Grows.alloc ?_ _) | (with_reducible refine Grows.drew ?_) | (with_reducible refine Grows.ext ?_ _ _)))); (case hacr10 => exact acts_new (by simp) rfl rfl (by simp)); rintro e w' ⟨rfl, hr10, dr10, rfl⟩) | (go_at_call 12; (with_reducible refine (col12_any 4 1 15 _).mono ?_); rintro e w' ⟨rfl, h91, d91, rfl⟩) | (go_at_call 12; (with_reducible refine (col12_any 5 1 12 _).mono ?_); rintro e w' ⟨rfl, h92, d92, rfl⟩) | (go_at_call 11; (with_reducible refine (pen11_any 3 2 _).mono ?_); rintro e w' ⟨rfl, h93, d93, rfl⟩) | (go_at_call 11; (with_reducible refine (pen11_any 2 3 _).mono ?_); rintro e w' ⟨rfl, h94, d94, rfl⟩) | (go_at_call 12; (with_reducible refine (col12_any 5 1 9 _).mono ?_); rintro e w' ⟨rfl, h95, d95, rfl⟩) | (go_at_call 11; (with_reducible refine (pen11_any 3 1 _).mono ?_); rintro e w' ⟨rfl, h96, d96, rfl⟩) | (go_at_call 13; (with_reducible refine (params_ok _ [pen 2 3, colored 5 1 9, pen 3 1] _ ?hacP ?okP ?lenP (HGL3.out.grows ?hglP)).mono ?hmainP); (case hglP => exact (by repeat' (first | (with_reducible exact Grows.refl _) | (with_reducible refine Grows.alloc ?_ _) | (with_reducible refine Grows.drew ?_) | (with_reducible refine Grows.ext ?_ _ _)))); (case hacP => exact acts_new (by simp) rfl rfl (by simp)); (case okP => decide); (case lenP => decide); rintro e wP ⟨xP, rfl, hxP, hgP⟩; rw [told_works] at hxP; have hGP : Grows wc wP := Grows.trans (by repeat' (first | (with_reducible exact Grows.refl _) | (with_reducible refine Grows.alloc ?_ _) | (with_reducible refine Grows.drew ?_) | (with_reducible refine Grows.ext ?_ _ _))) hgP) | (go_at_call 25; (with_reducible refine (print_w xP wP hxP (HGT3.out.grows hGP)).mono ?_); rintro e w' ⟨rfl, h9, d9, rfl⟩))
      go_returns
      refine ⟨?_, (HW3.out.trans hGP).trans (by repeat' (first | (with_reducible exact Grows.refl _) | (with_reducible refine Grows.ext ?_ _ _)))⟩
      rfl
end Go.Proofs.YtobbphkfdhjmdaaDoor

