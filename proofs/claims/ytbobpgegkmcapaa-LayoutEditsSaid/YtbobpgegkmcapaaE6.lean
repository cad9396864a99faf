/-
  Walks: part, lengths.
-/
import Derived.Test.YtbobpgegkmcapaaRows
import Derived.Test.YtbobpgegkmcapaaE1
import Derived.Test.YtbobpgegkmcapaaE2
import Derived.WalkKit
import Derived.WalkSpells
import Derived.WalkLawsBesides
import Derived.Handy
import Derived.Laws.Rows
import Derived.Great.BuildSlice
import Derived.Deep.Heap
import Derived.IntWalk
import Derived.Lib.Hide
import Derived.Outline
import Derived.Deep.Light
import Derived.Deep.LoopGhost
import Derived.BigGuardPart
import Derived.BigQuiet
import Derived.Deep.QuietTactic
import Derived.Deep.RegionHeld3
import Derived.Deep.DeepCutAuto
import Derived.Deep.CutBlock
import Derived.OwnWalk
import Derived.Maps.AppendAt
import Derived.Laws.EntriesVeiled
import Derived.Great.Walk
namespace Go.Proofs.Ytbobpgegkmcapaa
open Go.RowKit

theorem cells_new1 {w : World} {b : Nat} {v : Value} {t : TypeId} (hb : w.heap.size = b) : CellsAt 1 (w.alloc (.cells #[v] t)) (.slice (some ⟨b, 0, none⟩) 1 1) 1 [v] := by
  subst hb
  refine ⟨rfl, _, _, rfl, Nat.le_refl _, fun _ => ⟨w.heap.size, 0, rfl, by simp, fun j u hj => ?_⟩⟩
  rw [Nat.zero_add]
  exact (cell_of_row _ _ j _ t (0, 0) (heap_alloc_new w _)).trans (by simpa using hj)
theorem app_len {base : Nat} {e : TypeId} {size : Nat} {w : World} {v : Value} {n : Nat} {xs : List Value} (h : DstAt base e size w v n xs) : ∃ a c, v = .slice a n c := by
  obtain ⟨-, a, c, rfl, -⟩ := h.cells
  exact ⟨a, c, rfl⟩
theorem DstAt.last {base : Nat} {e : TypeId} {size : Nat} {w : World} {v : Value} {n : Nat} {xs : List Value} {x y : Int} (h : DstAt base e size w v n (xs ++ [.int .i64 x])) (hxy : x = y) : DstAt base e size w v n (xs ++ intC [y]) := by
  subst hxy
  exact h
theorem ix106 (x y : Nat) (w : World) : (Instr.index 106 (.agg #[.func (.func x) #[] #[], .func (.func y) #[] #[]]) (.int .i64 0)).run Try.prog w = .ok (.func (.func x) #[] #[]) w := by kernel_rfl
theorem index18 (w : World) (ρ : Operand → Value) {o : Oper} (ho : o.op = .index 106 (.tmp 17) (.const (.int .i64 0))) {x y : Nat} (h1 : ρ (.tmp 17) = .agg #[.func (.func x) #[] #[], .func (.func y) #[] #[]]) (h2 : ρ (.const (.int .i64 0)) = .int .i64 0) : (execOp ρ o).run Try.prog w = .ok (.value (.func (.func x) #[] #[])) w := by
  simp [execOp, ho, h1, h2, ix106]
theorem part_2 (row col rows cols o n : Int) (h : -20000 ≤ col + o ∧ col + o ≤ 40000) (w : World) : Calls Try.prog 71 #[.agg #[.int .i64 row, .int .i64 col, .int .i64 rows, .int .i64 cols], .int .i64 2, .int .i64 o, .int .i64 n] w (Ret (.agg #[.int .i64 row, .int .i64 (col + o), .int .i64 rows, .int .i64 n]) w) := by
  go_enter Try.func71, Try.ntmps71
  go_wp2
  go_returns
  exact ⟨rfl, (by repeat' (first | (with_reducible exact Grows.refl _) | (with_reducible refine Grows.alloc ?_ _) | (with_reducible refine Grows.drew ?_) | (with_reducible refine Grows.ext ?_ _ _)))⟩
theorem part_3 (row col rows cols o n : Int) (h : -20000 ≤ row + o ∧ row + o ≤ 40000) (w : World) : Calls Try.prog 71 #[.agg #[.int .i64 row, .int .i64 col, .int .i64 rows, .int .i64 cols], .int .i64 3, .int .i64 o, .int .i64 n] w (Ret (.agg #[.int .i64 (row + o), .int .i64 col, .int .i64 n, .int .i64 cols]) w) := by
  go_enter Try.func71, Try.ntmps71
  go_wp2
  go_returns
  exact ⟨rfl, (by repeat' (first | (with_reducible exact Grows.refl _) | (with_reducible refine Grows.alloc ?_ _) | (with_reducible refine Grows.drew ?_) | (with_reducible refine Grows.ext ?_ _ _)))⟩
theorem shareL_ediv {ws : List Int} {rest : Int} (hr : 0 ≤ rest) (hw : ∀ w ∈ ws, 1 ≤ w ∧ w ≤ 1000) (i : Nat) : shareL ws rest i = rest * sumI (ws.take i) / sumI ws := by
  have h := sumI_range (l := ws.take i) (c := 1000) fun x hx => by have := hw x (List.mem_of_mem_take hx); omega
  rw [shareL, Int.tdiv_eq_ediv_of_nonneg (Int.mul_nonneg hr h.1)]
theorem sums_ok {ws : List Int} (hw : ∀ w ∈ ws, 1 ≤ w ∧ w ≤ 1000) (hn : ws.length ≤ 1000) (i : Nat) : 0 ≤ sumI (ws.take i) ∧ sumI (ws.take i) ≤ 1000000 := by
  have h := sumI_range (l := ws.take i) (c := 1000) fun x hx => by have := hw x (List.mem_of_mem_take hx); omega
  have h2 : (ws.take i).length ≤ 1000 := by rw [List.length_take]; omega
  omega
theorem sum_pos {ws : List Int} (hw : ∀ w ∈ ws, 1 ≤ w ∧ w ≤ 1000) (hn : 1 ≤ ws.length) : 1 ≤ sumI ws := by
  have key : ∀ l : List Int, (∀ w ∈ l, 1 ≤ w ∧ w ≤ 1000) → (l.length : Int) ≤ sumI l := by
    intro l
    induction l with
    | nil => intro _; exact Int.le_refl _
    | cons x l ih =>
      intro h
      rw [sumI_cons, List.length_cons]
      have h1 := h x (by simp)
      have h2 := ih fun y hy => h y (by simp [hy])
      omega
  have := key ws hw
  omega
theorem prod_ok {rest s : Int} (h0 : 0 ≤ rest) (h1 : rest ≤ 10000) (g0 : 0 ≤ s) (g1 : s ≤ 1000000) : 0 ≤ rest * s ∧ rest * s ≤ 10000000000 := by
  refine ⟨Int.mul_nonneg h0 g0, Int.le_trans (Int.mul_le_mul_of_nonneg_right h1 g0) ?_⟩
  omega
theorem quo_ok {p t : Int} (h0 : 0 ≤ p) (h1 : p ≤ 10000000000) (ht : 1 ≤ t) : 0 ≤ p / t ∧ p / t ≤ 10000000000 :=
  ⟨Int.ediv_nonneg h0 (by omega), Int.le_trans (Int.ediv_le_self _ h0) h1⟩
set_option maxRecDepth 100000 in
set_option maxHeartbeats 4000000 in
theorem lengths_2 {S : Nat → Prop} (p : Int) (ks : List Lay) (ws : List Int) (hok : okTree (.mk 2 p ks ws) = true) (hn : (panesL (.mk 2 p ks ws)).length ≤ 1000) (row col rows cols : Int) (hc : 0 ≤ cols ∧ cols ≤ 10000) (_hr : 0 ≤ rows ∧ rows ≤ 10000)
    (hrest : 0 ≤ restL (.mk 2 p ks ws) ⟨row, col, rows, cols⟩) (vk vw : Value) (w : World) (h : LayAt S w (.mk 2 p ks ws) vk vw) :
    Calls Try.prog 70 #[.agg #[.int .i64 row, .int .i64 col, .int .i64 rows, .int .i64 cols], .agg #[.int .i64 2, .int .i64 p, vk, vw]] w (fun e w' => ∃ v, e = .returned v ∧ IntsAt (fun _ => True) w' v (lensOf (.mk 2 p ks ws) ⟨row, col, rows, cols⟩) ∧ Grows w w') := by
  obtain ⟨i0, hi0, hz0, hz1, hz2⟩ := info_parts info3
  obtain ⟨hv, hkok⟩ := okTree_iff.1 hok
  obtain ⟨-, -, h2, hl, -, hw⟩ := validN_split hv (show (2 : Int) ≠ 1 by decide)
  dsimp only [Lay.kids, Lay.ws] at h2 hl hw hkok
  have hmb := min_bounds _ hok
  have hlen : (panesL (.mk 2 p ks ws)).length = ((ks.map panesL).flatten).length := by rw [panesL_mk, if_neg (by decide)]
  have hks := len_kids (ks := ks) hkok
  obtain ⟨a, cap, G, rfl, hcap, hmx, hin⟩ := h.kids.open_ rfl
  obtain ⟨wa, wc, rfl, hwc, -, hiw⟩ := h.ints.open_ hl
  dsimp only [Lay.kids, Lay.ws] at hcap hmx hin hiw hwc h ⊢
  have HM := Lib.hid fun W (g : Grows w W) => minimum_any _ hok hn _ _ W (h.grows g)
  dsimp only [Lay.kind, Lay.pane] at HM
  have HMK := Lib.hid fun (x : Lay) (hx : x ∈ ks) => minimum_any (S := S) x (hkok x hx) (by have := len_mem hx; omega)
  obtain ⟨rest, hre⟩ : ∃ z, restL (.mk 2 p ks ws) ⟨row, col, rows, cols⟩ = z := ⟨_, rfl⟩
  have hre2 : cols - colsL (.mk 2 p ks ws) = rest := hre
  have hlens : lensOf (.mk 2 p ks ws) ⟨row, col, rows, cols⟩ = lensL 2 ks ws rest := by rw [lensOf, hre]; rfl
  rw [hre] at hrest
  rw [hlens]
  obtain ⟨lens, hlens2⟩ : ∃ z, lensL 2 ks ws rest = z := ⟨_, rfl⟩
  have hll : lens.length = ks.length := by rw [← hlens2, lens_len]
  have HLA := Lib.hid fun (i : Nat) (x : Lay) (hx : ks[i]? = some x) => (show lens[i]? = some (alongM 2 x + (shareL ws rest (i + 1) - shareL ws rest i)) from hlens2 ▸ lens_at hx)
  have HLL := Lib.hid hll
  rw [hlens2]
  clear hlens2 hll
  have hrest2 : rest ≤ 10000 := by omega
  have htot := sum_pos hw (by omega)
  have htot2 := sums_ok hw (by omega) ws.length
  rw [List.take_length] at htot2
  have HS := Lib.hid (shareL_ediv hrest hw)
  have HSO := Lib.hid (sums_ok hw (by omega))
  have HKB := Lib.hid fun (x : Lay) (hx : x ∈ ks) => (show (0 ≤ colsL x ∧ colsL x ≤ 3000) ∧ (0 ≤ rowsL x ∧ rowsL x ≤ 3000) by have := min_bounds x (hkok x hx); have := len_mem hx; omega)
  have Hin := Lib.hid hin
  have Hiw := Lib.hid hiw
  have HLW := Lib.hid hl
  obtain ⟨mc, hmc⟩ : ∃ z, colsL (.mk 2 p ks ws) = z := ⟨_, rfl⟩
  obtain ⟨mr, hmr⟩ : ∃ z, rowsL (.mk 2 p ks ws) = z := ⟨_, rfl⟩
  rw [hmc, hmr] at HM hmb
  rw [hmc] at hre2
  have hkn1000 : ks.length ≤ 1000 := by omega
  clear hre hlens hin hiw h hw hkok hv hok hl hks hlen
  go_enter Try.func70, Try.ntmps70
  go_upto_region 1 with fail
  refine abs_worldM (fun W => Grows w W ∧ Blk W w.heap.size 79 #[.int .i64 row, .int .i64 col, .int .i64 rows, .int .i64 cols] ∧ Blk W (w.heap.size + 1) 25 #[.int .i64 2, .int .i64 p, .slice a ks.length cap, .slice wa ks.length wc]) ?_ ?_
  · exact boxes2 _ _ _
  rintro W0 ⟨hg0, hb0, hb1⟩
  obtain ⟨a0, a1, a2, a3⟩ := hb0.four
  obtain ⟨c0, c1, c2, c3⟩ := hb1.four
  have hl0 := hb0.lt
  have hl1 := hb1.lt
  have HB0 := Lib.hid hb0
  have HB1 := Lib.hid hb1
  have HG0 := Lib.hid hg0
  clear hb0 hb1 hg0
  go_upto_region 2 with (first | (go_at_call 69; (with_reducible refine (axes_2 _).mono ?_); rintro e w' ⟨rfl, h49, d49, rfl⟩) | (refine Great.wpList_readTo rfl (some 18) rfl (.func (.func 80) #[] #[]) (index18 _ _ rfl rfl rfl) ?_))
  refine wp_region_grow (by kernel_rfl) (by kernel_rfl) ?_
  repeat (first | go_big_quiet_step ((first | (rename_i xg; go_at_call 80; (with_reducible refine (width_any _ _ _).mono ?_); rintro _ _ ⟨rfl, h0, d0, rfl⟩; exact ⟨rfl, Gr.mk (xg.h ++ h0) d0, by simp only [ext_ext, Gr.h_mk, Gr.d_mk, Array.append_assoc]⟩) | (rename_i xg; go_at_call 39; (with_reducible refine (HM.out _ (HG0.out.trans (by repeat' (first | (with_reducible exact Grows.refl _) | (with_reducible refine Grows.alloc ?_ _) | (with_reducible refine Grows.drew ?_) | (with_reducible refine Grows.ext ?_ _ _))))).mono ?_); rintro _ _ ⟨rfl, h0, d0, rfl⟩; exact ⟨rfl, Gr.mk (xg.h ++ h0) d0, by simp only [ext_ext, Gr.h_mk, Gr.d_mk, Array.append_assoc]⟩))) | quiet_step ((first | (rename_i xg; go_at_call 80; (with_reducible refine (width_any _ _ _).mono ?_); rintro _ _ ⟨rfl, h0, d0, rfl⟩; exact ⟨rfl, Gr.mk (xg.h ++ h0) d0, by simp only [ext_ext, Gr.h_mk, Gr.d_mk, Array.append_assoc]⟩) | (rename_i xg; go_at_call 39; (with_reducible refine (HM.out _ (HG0.out.trans (by repeat' (first | (with_reducible exact Grows.refl _) | (with_reducible refine Grows.alloc ?_ _) | (with_reducible refine Grows.drew ?_) | (with_reducible refine Grows.ext ?_ _ _))))).mono ?_); rintro _ _ ⟨rfl, h0, d0, rfl⟩; exact ⟨rfl, Gr.mk (xg.h ++ h0) d0, by simp only [ext_ext, Gr.h_mk, Gr.d_mk, Array.append_assoc]⟩))))
  refine wpQuiet_nil ?_
  rintro _ ⟨g52, rfl⟩
  clear hre2 hmb hc _hr HM hmc hmr
  go_upto_block 0 with fail
  refine abs_worldM (fun W => Grows W0 W) (by repeat' (first | (with_reducible exact Grows.refl _) | (with_reducible refine Grows.alloc ?_ _) | (with_reducible refine Grows.drew ?_) | (with_reducible refine Grows.ext ?_ _ _))) ?_
  rintro W1 hg1
  have HG1 := Lib.hid hg1
  obtain ⟨c0, c1, c2, c3⟩ := (HB1.out.grows hg1).four
  have hl1' := (HB1.out.grows hg1).lt
  clear hg1
  go_wp2
  go_loopw [7, 36] (fun t i wr => ∃ m : Nat, ∃ wv : World, wv = wr ∧ m ≤ ks.length ∧ i = .int .i64 m ∧ t = .int .i64 (sumI (ws.take m)) ∧ Grows W1 wv) (fun _ i _ => ks.length - (intOf i).toNat)
  case atStart => exact ⟨0, _, rfl, Nat.zero_le _, rfl, rfl, Grows.refl _⟩
  case round =>
    obtain ⟨m, wv, rfl, hm, rfl, rfl, hg⟩ := hrel
    have HG := Lib.hid hg
    have hso := HSO.out m
    by_cases hlt : m < ks.length
    · obtain ⟨b', off', y, rfl, hb', -, hy, -, f0⟩ := (Hiw.out.grows ((HG0.out.trans HG1.out).trans hg)).at_ (i := m) (by rw [HLW.out]; exact hlt)
      have hsn : sumI (ws.take (m + 1)) = sumI (ws.take m) + y := by rw [take_snoc hy, sumI_snoc]
      have hso2 := HSO.out (m + 1)
      rw [hsn] at hso2
      have HSN := Lib.hid hsn
      clear hg hy hsn
      generalize sumI (ws.take m) = s at *
      go_wp2_with fail
      go_roundw
      case rel => exact ⟨m + 1, _, rfl, by omega, by go_num, by rw [HSN.out], HG.out⟩
      case measure => simp [intOf]; omega
    · have e : ws.take m = ws := List.take_of_length_le (by rw [HLW.out]; omega)
      rw [e] at hso ⊢
      obtain ⟨tot, htt⟩ : ∃ z, sumI ws = z := ⟨_, rfl⟩
      rw [htt] at hso htot htot2 HS ⊢
      have hGm := HG1.out.trans hg
      obtain ⟨c0, c1, c2, c3⟩ := (HB1.out.grows hGm).four
      have hl1'' := (HB1.out.grows hGm).lt
      clear hg e
      go_upto_block 2 with fail
      refine abs_worldM (fun W => Grows W0 W) (HG1.out.trans HG.out) ?_
      rintro W2 hg2
      have HG2 := Lib.hid hg2
      clear hg2 HG HG1 hGm hlt
      obtain ⟨c0, c1, c2, c3⟩ := (HB1.out.grows HG2.out).four
      have hl2 := (HB1.out.grows HG2.out).lt
      have hsz2 := HG2.out.size
      have htq : (tot == 0) = false := by simp; omega
      have htq2 : ¬ tot = 0 := by omega
      go_wp2_with fail
      go_loopw [8, 11, 47] (fun s o i wr => ∃ m : Nat, ∃ wv : World, wv = wr ∧ m ≤ ks.length ∧ i = .int .i64 m ∧ s = .int .i64 (sumI (ws.take m)) ∧ DstAt W2.heap.size 3 1 wv o m (intC (lens.take m)) ∧ Grows W2 wv) (fun _ _ i _ => ks.length - (intOf i).toNat)
      case atStart => exact ⟨0, _, rfl, Nat.zero_le _, rfl, rfl, DstAt.nil _ _ _ _, Grows.refl _⟩
      case round =>
        obtain ⟨m, wv, rfl, hm, rfl, rfl, ho, hg⟩ := hrel
        have HG := Lib.hid hg
        have HO := Lib.hid ho
        have hso := HSO.out m
        have hgg := HG2.out.trans hg
        obtain ⟨c0, c1, c2, c3⟩ := (HB1.out.grows hgg).four
        have hl3 := (HB1.out.grows hgg).lt
        have hsz := hg.size
        by_cases hlt : m < ks.length
        · obtain ⟨b, off, x, ka, kn, kc, xa, xn, xc, rfl, hb, -, hx, hmem, -, -, e0, e1, e4, e3, hL⟩ := (Hin.out.grows (HG0.out.trans hgg)).at_ hlt
          obtain ⟨b', off', y, rfl, hb', -, hy, -, f0⟩ := (Hiw.out.grows (HG0.out.trans hgg)).at_ (i := m) (by rw [HLW.out]; exact hlt)
          have hsn : sumI (ws.take (m + 1)) = sumI (ws.take m) + y := by rw [take_snoc hy, sumI_snoc]
          have hso2 := HSO.out (m + 1)
          have hv1 := HS.out m
          have hv2 := HS.out (m + 1)
          have hla := HLA.out m x hx
          rw [hv1, hv2] at hla
          rw [hsn] at hso2 hla
          obtain ⟨s, hs⟩ : ∃ z, sumI (ws.take m) = z := ⟨_, rfl⟩
          rw [hs] at hso hso2 hla hsn
          have p1 := prod_ok hrest hrest2 hso.1 hso.2
          have p2 := prod_ok hrest hrest2 hso2.1 hso2.2
          have r1 := quo_ok p1.1 p1.2 htot
          have r2 := quo_ok p2.1 p2.2 htot
          have hkb := HKB.out x hmem
          have HMX := Lib.hid fun W (g : Grows wv W) => HMK.out x hmem _ _ W (hL.grows g)
          have HSN := Lib.hid hsn
          have HLM := Lib.hid hla
          rw [hs]
          clear ho hg hgg hy hx hmem hL hsn hla hv1 hv2 hs
          go_upto_region 15 with fail
          refine wp_region_held_drew (S := fun w' => True) (by kernel_rfl) ?_ (fun hHeld => ?_)
          · (try trivial)
          refine wpAnyH_take (i := 0) (v := ?v1_0) rfl (by kernel_rfl) (by kernel_rfl) (by kernel_rfl) (fun _ _ _ h => h) (Or.inl ⟨by kernel_rfl, ?y1_0⟩) (by assumption) ?r1_0
          case y1_0 => ((intro w hSw; (try dsimp only at hSw); go_simp); (try go_ints); (try with_reducible rfl))
          try simp only [Act.put, List.getElem_toArray, List.getElem_cons_zero, List.setIfInBounds_toArray, List.set_cons_zero, List.set_cons_succ]
          refine wpAnyH_take (i := 1) (v := ?v2_1) rfl (by kernel_rfl) (by kernel_rfl) (by kernel_rfl) (fun _ _ _ h => h) (Or.inl ⟨by kernel_rfl, ?y2_1⟩) (by assumption) ?r2_1
          case y2_1 => ((intro w hSw; (try dsimp only at hSw); go_simp); (try go_ints); (try with_reducible rfl))
          try simp only [Act.put, List.getElem_toArray, List.getElem_cons_succ, List.getElem_cons_zero, List.setIfInBounds_toArray, List.set_cons_zero, List.set_cons_succ]
          refine wpAnyH_take (i := 5) (v := ?v3_5) rfl (by kernel_rfl) (by kernel_rfl) (by kernel_rfl) (fun _ _ _ h => h) (Or.inl ⟨by kernel_rfl, ?y3_5⟩) (by assumption) ?r3_5
          case y3_5 => ((intro w hSw; (try dsimp only at hSw); go_simp); (try go_ints); (try with_reducible rfl))
          try simp only [Act.put, List.getElem_toArray, List.getElem_cons_succ, List.getElem_cons_zero, List.setIfInBounds_toArray, List.set_cons_zero, List.set_cons_succ]
          refine wpAnyH_take (i := 6) (v := ?v4_6) rfl (by kernel_rfl) (by kernel_rfl) (by kernel_rfl) (fun _ _ _ h => h) (Or.inl ⟨by kernel_rfl, ?y4_6⟩) (by assumption) ?r4_6
          case y4_6 => ((intro w hSw; (try dsimp only at hSw); go_simp); (try go_ints); (try with_reducible rfl))
          try simp only [Act.put, List.getElem_toArray, List.getElem_cons_succ, List.getElem_cons_zero, List.setIfInBounds_toArray, List.set_cons_zero, List.set_cons_succ]
          refine wpAnyH_take (i := 7) (v := ?v5_7) rfl (by kernel_rfl) (by kernel_rfl) (by kernel_rfl) (fun _ _ _ h => h) (Or.inl ⟨by kernel_rfl, ?y5_7⟩) (by assumption) ?r5_7
          case y5_7 => ((intro w hSw; (try dsimp only at hSw); go_simp); (try go_ints); (try with_reducible rfl))
          try simp only [Act.put, List.getElem_toArray, List.getElem_cons_succ, List.getElem_cons_zero, List.setIfInBounds_toArray, List.set_cons_zero, List.set_cons_succ]
          refine wpAnyH_take (i := 8) (v := ?v6_8) rfl (by kernel_rfl) (by kernel_rfl) (by kernel_rfl) (fun _ _ _ h => h) (Or.inl ⟨by kernel_rfl, ?y6_8⟩) (by assumption) ?r6_8
          case y6_8 => ((intro w hSw; (try dsimp only at hSw); go_simp); (try go_ints); (try with_reducible rfl))
          try simp only [Act.put, List.getElem_toArray, List.getElem_cons_succ, List.getElem_cons_zero, List.setIfInBounds_toArray, List.set_cons_zero, List.set_cons_succ]
          refine wpAnyH_take (i := 9) (v := ?v7_9) rfl (by kernel_rfl) (by kernel_rfl) (by kernel_rfl) (fun _ _ _ h => h) (Or.inl ⟨by kernel_rfl, ?y7_9⟩) (by assumption) ?r7_9
          case y7_9 => ((intro w hSw; (try dsimp only at hSw); go_simp); (try go_ints); (try with_reducible rfl))
          try simp only [Act.put, List.getElem_toArray, List.getElem_cons_succ, List.getElem_cons_zero, List.setIfInBounds_toArray, List.set_cons_zero, List.set_cons_succ]
          refine wpAnyH_take (i := 11) (v := ?v8_11) rfl (by kernel_rfl) (by kernel_rfl) (by kernel_rfl) (fun _ _ _ h => h) (Or.inl ⟨by kernel_rfl, ?y8_11⟩) (by assumption) ?r8_11
          case y8_11 => ((intro w hSw; (try dsimp only at hSw); go_simp); (try go_ints); (try with_reducible rfl))
          try simp only [Act.put, List.getElem_toArray, List.getElem_cons_succ, List.getElem_cons_zero, List.setIfInBounds_toArray, List.set_cons_zero, List.set_cons_succ]
          refine wpAnyH_ready (rs := [2]) (by kernel_rfl) (by simp) ?_
          refine AllReadyH.cons rfl (fun K hK => ?_) AllReadyH.nil
          simp only [List.getElem_toArray, List.getElem_cons_succ, List.getElem_cons_zero]
          go_simp
          skip
          refine hK.out _ _ ?_ ?_
          · ((try dsimp only); try trivial)
          clear hK K hHeld
          intro hHeld
          try simp only [Act.put, List.getElem_toArray, List.getElem_cons_succ, List.getElem_cons_zero, List.setIfInBounds_toArray, List.set_cons_zero, List.set_cons_succ]
          refine wpAnyH_ready (rs := [3]) (by kernel_rfl) (by simp) ?_
          refine AllReadyH.cons rfl (fun K hK => ?_) AllReadyH.nil
          simp only [List.getElem_toArray, List.getElem_cons_succ, List.getElem_cons_zero]
          go_simp
          (go_at_call 39; (with_reducible refine (HMX.out _ (by repeat' (first | (with_reducible exact Grows.refl _) | (with_reducible refine Grows.alloc ?_ _) | (with_reducible refine Grows.drew ?_) | (with_reducible refine Grows.ext ?_ _ _)))).mono ?_); rintro e w' ⟨rfl, h50, d50, rfl⟩)
          refine hK.out _ _ ?_ ?_
          · ((try dsimp only); try trivial)
          clear hK K hHeld
          intro hHeld
          try simp only [Act.put, List.getElem_toArray, List.getElem_cons_succ, List.getElem_cons_zero, List.setIfInBounds_toArray, List.set_cons_zero, List.set_cons_succ]
          refine wpAnyH_ready (rs := [4]) (by kernel_rfl) (by simp) ?_
          refine AllReadyH.cons rfl (fun K hK => ?_) AllReadyH.nil
          simp only [List.getElem_toArray, List.getElem_cons_succ, List.getElem_cons_zero]
          go_simp
          (go_at_call 80; (with_reducible refine (width_any _ _ _).mono ?_); rintro e w' ⟨rfl, h51, d51, rfl⟩)
          refine hK.out _ _ ?_ ?_
          · ((try dsimp only); try trivial)
          clear hK K hHeld
          intro hHeld
          try simp only [Act.put, List.getElem_toArray, List.getElem_cons_succ, List.getElem_cons_zero, List.setIfInBounds_toArray, List.set_cons_zero, List.set_cons_succ]
          refine wpAnyH_take (i := 10) (v := ?v12_10) rfl (by kernel_rfl) (by kernel_rfl) (by kernel_rfl) (fun _ _ _ h => h) (Or.inl ⟨by kernel_rfl, ?y12_10⟩) (by assumption) ?r12_10
          case y12_10 => ((intro w hSw; (try dsimp only at hSw); go_simp); (try go_ints); (try with_reducible rfl))
          try simp only [Act.put, List.getElem_toArray, List.getElem_cons_succ, List.getElem_cons_zero, List.setIfInBounds_toArray, List.set_cons_zero, List.set_cons_succ]
          refine wpAnyH_take (i := 12) (v := ?v13_12) rfl (by kernel_rfl) (by kernel_rfl) (by kernel_rfl) (fun _ _ _ h => h) (Or.inl ⟨by kernel_rfl, ?y13_12⟩) (by assumption) ?r13_12
          case y13_12 => ((intro w hSw; (try dsimp only at hSw); go_simp); (try go_ints); (try with_reducible rfl))
          try simp only [Act.put, List.getElem_toArray, List.getElem_cons_succ, List.getElem_cons_zero, List.setIfInBounds_toArray, List.set_cons_zero, List.set_cons_succ]
          refine wpAnyH_ready (rs := [13]) (by kernel_rfl) (by simp) ?_
          refine AllReadyH.cons rfl (fun K hK => ?_) AllReadyH.nil
          simp only [List.getElem_toArray, List.getElem_cons_succ, List.getElem_cons_zero]
          go_simp
          skip
          refine hK.out _ _ ?_ ?_
          · ((try dsimp only); try trivial)
          clear hK K hHeld
          intro hHeld
          try simp only [Act.put, List.getElem_toArray, List.getElem_cons_succ, List.getElem_cons_zero, List.setIfInBounds_toArray, List.set_cons_zero, List.set_cons_succ]
          refine wpAnyH_ready (rs := [14]) (by kernel_rfl) (by simp) ?_
          refine AllReadyH.cons rfl (fun K hK => ?_) AllReadyH.nil
          simp only [List.getElem_toArray, List.getElem_cons_succ, List.getElem_cons_zero]
          rw [if_pos (by kernel_rfl)]
          (refine wp_app _ (.tmp 64) (.tmp 77) 23 rfl W2.heap.size 3 i0 _ 1 8 Try.underlying23 hi0 hz0 hz1 hz2 rfl (by decide) m 1 (intC (lens.take m)) _ (HO.out.grows (by repeat' (first | (with_reducible exact Grows.refl _) | (with_reducible refine Grows.alloc ?_ _) | (with_reducible refine Grows.drew ?_) | (with_reducible refine Grows.ext ?_ _ _)))) (cells_new1 (by simp)) (by simp [Value.oneCell']) (by unfold maxLen; omega) (by omega) (by simp; omega) ?_; intro v3 w3 row3 q1 q2 q3 _; have hgq : Grows W2 w3 := appended_grows (HG.out.trans (by repeat' (first | (with_reducible exact Grows.refl _) | (with_reducible refine Grows.alloc ?_ _) | (with_reducible refine Grows.drew ?_) | (with_reducible refine Grows.ext ?_ _ _)))) q2 (fun k e => (q3 k e).1))
          refine hK.out _ _ ?_ ?_
          · ((try dsimp only); try trivial)
          clear hK K hHeld
          intro hHeld
          try simp only [Act.put, List.setIfInBounds_toArray, List.set_cons_zero, List.set_cons_succ]
          refine wpAnyH_take (i := 15) (v := ?v16_15) rfl (by kernel_rfl) (by kernel_rfl) (by kernel_rfl) (fun _ _ _ h => h) (Or.inl ⟨by kernel_rfl, ?y16_15⟩) (by assumption) ?r16_15
          case y16_15 => ((intro w hSw; (try dsimp only at hSw); go_simp); (try go_ints); (try with_reducible rfl))
          try simp only [Act.put, List.getElem_toArray, List.getElem_cons_succ, List.getElem_cons_zero, List.setIfInBounds_toArray, List.set_cons_zero, List.set_cons_succ]
          refine wpAnyH_done (by kernel_rfl) ?_ _
          clear hHeld
          go_wp2_with fail
          go_roundw
          case rel => exact ⟨m + 1, _, rfl, by omega, by go_num, by rw [HSN.out], by rw [take_snoc HLM.out, ← intC_append]; exact DstAt.last q1 (by unfold alongM alongL; simp only [if_true]; omega), hgq⟩
          case measure => simp [intOf]; omega
        · have e : m = ks.length := by omega
          subst e
          have e2 : lens.take ks.length = lens := List.take_of_length_le (by rw [HLL.out]; omega)
          rw [e2] at ho
          obtain ⟨oa, oc, rfl⟩ := app_len ho
          have HO2 := Lib.hid ho
          clear hg ho e2
          go_wp2_with fail
          go_ret
          exact ⟨_, rfl, ints_of_cells HLL.out HO2.out.cells (fun _ _ _ => trivial) (by rw [HLL.out]; omega), HG0.out.trans (HG2.out.trans HG.out)⟩
set_option maxRecDepth 100000 in
set_option maxHeartbeats 4000000 in
theorem lengths_3 {S : Nat → Prop} (p : Int) (ks : List Lay) (ws : List Int) (hok : okTree (.mk 3 p ks ws) = true) (hn : (panesL (.mk 3 p ks ws)).length ≤ 1000) (row col rows cols : Int) (_hc : 0 ≤ cols ∧ cols ≤ 10000) (hr : 0 ≤ rows ∧ rows ≤ 10000)
    (hrest : 0 ≤ restL (.mk 3 p ks ws) ⟨row, col, rows, cols⟩) (vk vw : Value) (w : World) (h : LayAt S w (.mk 3 p ks ws) vk vw) :
    Calls Try.prog 70 #[.agg #[.int .i64 row, .int .i64 col, .int .i64 rows, .int .i64 cols], .agg #[.int .i64 3, .int .i64 p, vk, vw]] w (fun e w' => ∃ v, e = .returned v ∧ IntsAt (fun _ => True) w' v (lensOf (.mk 3 p ks ws) ⟨row, col, rows, cols⟩) ∧ Grows w w') := by
  obtain ⟨i0, hi0, hz0, hz1, hz2⟩ := info_parts info3
  obtain ⟨hv, hkok⟩ := okTree_iff.1 hok
  obtain ⟨-, -, h2, hl, -, hw⟩ := validN_split hv (show (3 : Int) ≠ 1 by decide)
  dsimp only [Lay.kids, Lay.ws] at h2 hl hw hkok
  have hmb := min_bounds _ hok
  have hlen : (panesL (.mk 3 p ks ws)).length = ((ks.map panesL).flatten).length := by rw [panesL_mk, if_neg (by decide)]
  have hks := len_kids (ks := ks) hkok
  obtain ⟨a, cap, G, rfl, hcap, hmx, hin⟩ := h.kids.open_ rfl
  obtain ⟨wa, wc, rfl, hwc, -, hiw⟩ := h.ints.open_ hl
  dsimp only [Lay.kids, Lay.ws] at hcap hmx hin hiw hwc h ⊢
  have HM := Lib.hid fun W (g : Grows w W) => minimum_any _ hok hn _ _ W (h.grows g)
  dsimp only [Lay.kind, Lay.pane] at HM
  have HMK := Lib.hid fun (x : Lay) (hx : x ∈ ks) => minimum_any (S := S) x (hkok x hx) (by have := len_mem hx; omega)
  obtain ⟨rest, hre⟩ : ∃ z, restL (.mk 3 p ks ws) ⟨row, col, rows, cols⟩ = z := ⟨_, rfl⟩
  have hre2 : rows - rowsL (.mk 3 p ks ws) = rest := hre
  have hlens : lensOf (.mk 3 p ks ws) ⟨row, col, rows, cols⟩ = lensL 3 ks ws rest := by rw [lensOf, hre]; rfl
  rw [hre] at hrest
  rw [hlens]
  obtain ⟨lens, hlens2⟩ : ∃ z, lensL 3 ks ws rest = z := ⟨_, rfl⟩
  have hll : lens.length = ks.length := by rw [← hlens2, lens_len]
  have HLA := Lib.hid fun (i : Nat) (x : Lay) (hx : ks[i]? = some x) => (show lens[i]? = some (alongM 3 x + (shareL ws rest (i + 1) - shareL ws rest i)) from hlens2 ▸ lens_at hx)
  have HLL := Lib.hid hll
  rw [hlens2]
  clear hlens2 hll
  have hrest2 : rest ≤ 10000 := by omega
  have htot := sum_pos hw (by omega)
  have htot2 := sums_ok hw (by omega) ws.length
  rw [List.take_length] at htot2
  have HS := Lib.hid (shareL_ediv hrest hw)
  have HSO := Lib.hid (sums_ok hw (by omega))
  have HKB := Lib.hid fun (x : Lay) (hx : x ∈ ks) => (show (0 ≤ colsL x ∧ colsL x ≤ 3000) ∧ (0 ≤ rowsL x ∧ rowsL x ≤ 3000) by have := min_bounds x (hkok x hx); have := len_mem hx; omega)
  have Hin := Lib.hid hin
  have Hiw := Lib.hid hiw
  have HLW := Lib.hid hl
  obtain ⟨mc, hmc⟩ : ∃ z, colsL (.mk 3 p ks ws) = z := ⟨_, rfl⟩
  obtain ⟨mr, hmr⟩ : ∃ z, rowsL (.mk 3 p ks ws) = z := ⟨_, rfl⟩
  rw [hmc, hmr] at HM hmb
  rw [hmr] at hre2
  have hkn1000 : ks.length ≤ 1000 := by omega
  clear hre hlens hin hiw h hw hkok hv hok hl hks hlen
  go_enter Try.func70, Try.ntmps70
  go_upto_region 1 with fail
  refine abs_worldM (fun W => Grows w W ∧ Blk W w.heap.size 79 #[.int .i64 row, .int .i64 col, .int .i64 rows, .int .i64 cols] ∧ Blk W (w.heap.size + 1) 25 #[.int .i64 3, .int .i64 p, .slice a ks.length cap, .slice wa ks.length wc]) ?_ ?_
  · exact boxes2 _ _ _
  rintro W0 ⟨hg0, hb0, hb1⟩
  obtain ⟨a0, a1, a2, a3⟩ := hb0.four
  obtain ⟨c0, c1, c2, c3⟩ := hb1.four
  have hl0 := hb0.lt
  have hl1 := hb1.lt
  have HB0 := Lib.hid hb0
  have HB1 := Lib.hid hb1
  have HG0 := Lib.hid hg0
  clear hb0 hb1 hg0
  go_upto_region 2 with (first | (go_at_call 69; (with_reducible refine (axes_3 _ (by decide) _).mono ?_); rintro e w' ⟨rfl, h53, d53, rfl⟩) | (refine Great.wpList_readTo rfl (some 18) rfl (.func (.func 81) #[] #[]) (index18 _ _ rfl rfl rfl) ?_))
  refine wp_region_grow (by kernel_rfl) (by kernel_rfl) ?_
  repeat (first | go_big_quiet_step ((first | (rename_i xg; go_at_call 81; (with_reducible refine (height_any _ _ _).mono ?_); rintro _ _ ⟨rfl, h0, d0, rfl⟩; exact ⟨rfl, Gr.mk (xg.h ++ h0) d0, by simp only [ext_ext, Gr.h_mk, Gr.d_mk, Array.append_assoc]⟩) | (rename_i xg; go_at_call 39; (with_reducible refine (HM.out _ (HG0.out.trans (by repeat' (first | (with_reducible exact Grows.refl _) | (with_reducible refine Grows.alloc ?_ _) | (with_reducible refine Grows.drew ?_) | (with_reducible refine Grows.ext ?_ _ _))))).mono ?_); rintro _ _ ⟨rfl, h0, d0, rfl⟩; exact ⟨rfl, Gr.mk (xg.h ++ h0) d0, by simp only [ext_ext, Gr.h_mk, Gr.d_mk, Array.append_assoc]⟩))) | quiet_step ((first | (rename_i xg; go_at_call 81; (with_reducible refine (height_any _ _ _).mono ?_); rintro _ _ ⟨rfl, h0, d0, rfl⟩; exact ⟨rfl, Gr.mk (xg.h ++ h0) d0, by simp only [ext_ext, Gr.h_mk, Gr.d_mk, Array.append_assoc]⟩) | (rename_i xg; go_at_call 39; (with_reducible refine (HM.out _ (HG0.out.trans (by repeat' (first | (with_reducible exact Grows.refl _) | (with_reducible refine Grows.alloc ?_ _) | (with_reducible refine Grows.drew ?_) | (with_reducible refine Grows.ext ?_ _ _))))).mono ?_); rintro _ _ ⟨rfl, h0, d0, rfl⟩; exact ⟨rfl, Gr.mk (xg.h ++ h0) d0, by simp only [ext_ext, Gr.h_mk, Gr.d_mk, Array.append_assoc]⟩))))
  refine wpQuiet_nil ?_
  rintro _ ⟨g56, rfl⟩
  clear hre2 hmb _hc hr HM hmc hmr
  go_upto_block 0 with fail
  refine abs_worldM (fun W => Grows W0 W) (by repeat' (first | (with_reducible exact Grows.refl _) | (with_reducible refine Grows.alloc ?_ _) | (with_reducible refine Grows.drew ?_) | (with_reducible refine Grows.ext ?_ _ _))) ?_
  rintro W1 hg1
  have HG1 := Lib.hid hg1
  obtain ⟨c0, c1, c2, c3⟩ := (HB1.out.grows hg1).four
  have hl1' := (HB1.out.grows hg1).lt
  clear hg1
  go_wp2
  go_loopw [7, 36] (fun t i wr => ∃ m : Nat, ∃ wv : World, wv = wr ∧ m ≤ ks.length ∧ i = .int .i64 m ∧ t = .int .i64 (sumI (ws.take m)) ∧ Grows W1 wv) (fun _ i _ => ks.length - (intOf i).toNat)
  case atStart => exact ⟨0, _, rfl, Nat.zero_le _, rfl, rfl, Grows.refl _⟩
  case round =>
    obtain ⟨m, wv, rfl, hm, rfl, rfl, hg⟩ := hrel
    have HG := Lib.hid hg
    have hso := HSO.out m
    by_cases hlt : m < ks.length
    · obtain ⟨b', off', y, rfl, hb', -, hy, -, f0⟩ := (Hiw.out.grows ((HG0.out.trans HG1.out).trans hg)).at_ (i := m) (by rw [HLW.out]; exact hlt)
      have hsn : sumI (ws.take (m + 1)) = sumI (ws.take m) + y := by rw [take_snoc hy, sumI_snoc]
      have hso2 := HSO.out (m + 1)
      rw [hsn] at hso2
      have HSN := Lib.hid hsn
      clear hg hy hsn
      generalize sumI (ws.take m) = s at *
      go_wp2_with fail
      go_roundw
      case rel => exact ⟨m + 1, _, rfl, by omega, by go_num, by rw [HSN.out], HG.out⟩
      case measure => simp [intOf]; omega
    · have e : ws.take m = ws := List.take_of_length_le (by rw [HLW.out]; omega)
      rw [e] at hso ⊢
      obtain ⟨tot, htt⟩ : ∃ z, sumI ws = z := ⟨_, rfl⟩
      rw [htt] at hso htot htot2 HS ⊢
      have hGm := HG1.out.trans hg
      obtain ⟨c0, c1, c2, c3⟩ := (HB1.out.grows hGm).four
      have hl1'' := (HB1.out.grows hGm).lt
      clear hg e
      go_upto_block 2 with fail
      refine abs_worldM (fun W => Grows W0 W) (HG1.out.trans HG.out) ?_
      rintro W2 hg2
      have HG2 := Lib.hid hg2
      clear hg2 HG HG1 hGm hlt
      obtain ⟨c0, c1, c2, c3⟩ := (HB1.out.grows HG2.out).four
      have hl2 := (HB1.out.grows HG2.out).lt
      have hsz2 := HG2.out.size
      have htq : (tot == 0) = false := by simp; omega
      have htq2 : ¬ tot = 0 := by omega
      go_wp2_with fail
      go_loopw [8, 11, 47] (fun s o i wr => ∃ m : Nat, ∃ wv : World, wv = wr ∧ m ≤ ks.length ∧ i = .int .i64 m ∧ s = .int .i64 (sumI (ws.take m)) ∧ DstAt W2.heap.size 3 1 wv o m (intC (lens.take m)) ∧ Grows W2 wv) (fun _ _ i _ => ks.length - (intOf i).toNat)
      case atStart => exact ⟨0, _, rfl, Nat.zero_le _, rfl, rfl, DstAt.nil _ _ _ _, Grows.refl _⟩
      case round =>
        obtain ⟨m, wv, rfl, hm, rfl, rfl, ho, hg⟩ := hrel
        have HG := Lib.hid hg
        have HO := Lib.hid ho
        have hso := HSO.out m
        have hgg := HG2.out.trans hg
        obtain ⟨c0, c1, c2, c3⟩ := (HB1.out.grows hgg).four
        have hl3 := (HB1.out.grows hgg).lt
        have hsz := hg.size
        by_cases hlt : m < ks.length
        · obtain ⟨b, off, x, ka, kn, kc, xa, xn, xc, rfl, hb, -, hx, hmem, -, -, e0, e1, e4, e3, hL⟩ := (Hin.out.grows (HG0.out.trans hgg)).at_ hlt
          obtain ⟨b', off', y, rfl, hb', -, hy, -, f0⟩ := (Hiw.out.grows (HG0.out.trans hgg)).at_ (i := m) (by rw [HLW.out]; exact hlt)
          have hsn : sumI (ws.take (m + 1)) = sumI (ws.take m) + y := by rw [take_snoc hy, sumI_snoc]
          have hso2 := HSO.out (m + 1)
          have hv1 := HS.out m
          have hv2 := HS.out (m + 1)
          have hla := HLA.out m x hx
          rw [hv1, hv2] at hla
          rw [hsn] at hso2 hla
          obtain ⟨s, hs⟩ : ∃ z, sumI (ws.take m) = z := ⟨_, rfl⟩
          rw [hs] at hso hso2 hla hsn
          have p1 := prod_ok hrest hrest2 hso.1 hso.2
          have p2 := prod_ok hrest hrest2 hso2.1 hso2.2
          have r1 := quo_ok p1.1 p1.2 htot
          have r2 := quo_ok p2.1 p2.2 htot
          have hkb := HKB.out x hmem
          have HMX := Lib.hid fun W (g : Grows wv W) => HMK.out x hmem _ _ W (hL.grows g)
          have HSN := Lib.hid hsn
          have HLM := Lib.hid hla
          rw [hs]
          clear ho hg hgg hy hx hmem hL hsn hla hv1 hv2 hs
          go_upto_region 15 with fail
          refine wp_region_held_drew (S := fun w' => True) (by kernel_rfl) ?_ (fun hHeld => ?_)
          · (try trivial)
          refine wpAnyH_take (i := 0) (v := ?v17_0) rfl (by kernel_rfl) (by kernel_rfl) (by kernel_rfl) (fun _ _ _ h => h) (Or.inl ⟨by kernel_rfl, ?y17_0⟩) (by assumption) ?r17_0
          case y17_0 => ((intro w hSw; (try dsimp only at hSw); go_simp); (try go_ints); (try with_reducible rfl))
          try simp only [Act.put, List.getElem_toArray, List.getElem_cons_zero, List.setIfInBounds_toArray, List.set_cons_zero, List.set_cons_succ]
          refine wpAnyH_take (i := 1) (v := ?v18_1) rfl (by kernel_rfl) (by kernel_rfl) (by kernel_rfl) (fun _ _ _ h => h) (Or.inl ⟨by kernel_rfl, ?y18_1⟩) (by assumption) ?r18_1
          case y18_1 => ((intro w hSw; (try dsimp only at hSw); go_simp); (try go_ints); (try with_reducible rfl))
          try simp only [Act.put, List.getElem_toArray, List.getElem_cons_succ, List.getElem_cons_zero, List.setIfInBounds_toArray, List.set_cons_zero, List.set_cons_succ]
          refine wpAnyH_take (i := 5) (v := ?v19_5) rfl (by kernel_rfl) (by kernel_rfl) (by kernel_rfl) (fun _ _ _ h => h) (Or.inl ⟨by kernel_rfl, ?y19_5⟩) (by assumption) ?r19_5
          case y19_5 => ((intro w hSw; (try dsimp only at hSw); go_simp); (try go_ints); (try with_reducible rfl))
          try simp only [Act.put, List.getElem_toArray, List.getElem_cons_succ, List.getElem_cons_zero, List.setIfInBounds_toArray, List.set_cons_zero, List.set_cons_succ]
          refine wpAnyH_take (i := 6) (v := ?v20_6) rfl (by kernel_rfl) (by kernel_rfl) (by kernel_rfl) (fun _ _ _ h => h) (Or.inl ⟨by kernel_rfl, ?y20_6⟩) (by assumption) ?r20_6
          case y20_6 => ((intro w hSw; (try dsimp only at hSw); go_simp); (try go_ints); (try with_reducible rfl))
          try simp only [Act.put, List.getElem_toArray, List.getElem_cons_succ, List.getElem_cons_zero, List.setIfInBounds_toArray, List.set_cons_zero, List.set_cons_succ]
          refine wpAnyH_take (i := 7) (v := ?v21_7) rfl (by kernel_rfl) (by kernel_rfl) (by kernel_rfl) (fun _ _ _ h => h) (Or.inl ⟨by kernel_rfl, ?y21_7⟩) (by assumption) ?r21_7
          case y21_7 => ((intro w hSw; (try dsimp only at hSw); go_simp); (try go_ints); (try with_reducible rfl))
          try simp only [Act.put, List.getElem_toArray, List.getElem_cons_succ, List.getElem_cons_zero, List.setIfInBounds_toArray, List.set_cons_zero, List.set_cons_succ]
          refine wpAnyH_take (i := 8) (v := ?v22_8) rfl (by kernel_rfl) (by kernel_rfl) (by kernel_rfl) (fun _ _ _ h => h) (Or.inl ⟨by kernel_rfl, ?y22_8⟩) (by assumption) ?r22_8
          case y22_8 => ((intro w hSw; (try dsimp only at hSw); go_simp); (try go_ints); (try with_reducible rfl))
          try simp only [Act.put, List.getElem_toArray, List.getElem_cons_succ, List.getElem_cons_zero, List.setIfInBounds_toArray, List.set_cons_zero, List.set_cons_succ]
          refine wpAnyH_take (i := 9) (v := ?v23_9) rfl (by kernel_rfl) (by kernel_rfl) (by kernel_rfl) (fun _ _ _ h => h) (Or.inl ⟨by kernel_rfl, ?y23_9⟩) (by assumption) ?r23_9
          case y23_9 => ((intro w hSw; (try dsimp only at hSw); go_simp); (try go_ints); (try with_reducible rfl))
          try simp only [Act.put, List.getElem_toArray, List.getElem_cons_succ, List.getElem_cons_zero, List.setIfInBounds_toArray, List.set_cons_zero, List.set_cons_succ]
          refine wpAnyH_take (i := 11) (v := ?v24_11) rfl (by kernel_rfl) (by kernel_rfl) (by kernel_rfl) (fun _ _ _ h => h) (Or.inl ⟨by kernel_rfl, ?y24_11⟩) (by assumption) ?r24_11
          case y24_11 => ((intro w hSw; (try dsimp only at hSw); go_simp); (try go_ints); (try with_reducible rfl))
          try simp only [Act.put, List.getElem_toArray, List.getElem_cons_succ, List.getElem_cons_zero, List.setIfInBounds_toArray, List.set_cons_zero, List.set_cons_succ]
          refine wpAnyH_ready (rs := [2]) (by kernel_rfl) (by simp) ?_
          refine AllReadyH.cons rfl (fun K hK => ?_) AllReadyH.nil
          simp only [List.getElem_toArray, List.getElem_cons_succ, List.getElem_cons_zero]
          go_simp
          skip
          refine hK.out _ _ ?_ ?_
          · ((try dsimp only); try trivial)
          clear hK K hHeld
          intro hHeld
          try simp only [Act.put, List.getElem_toArray, List.getElem_cons_succ, List.getElem_cons_zero, List.setIfInBounds_toArray, List.set_cons_zero, List.set_cons_succ]
          refine wpAnyH_ready (rs := [3]) (by kernel_rfl) (by simp) ?_
          refine AllReadyH.cons rfl (fun K hK => ?_) AllReadyH.nil
          simp only [List.getElem_toArray, List.getElem_cons_succ, List.getElem_cons_zero]
          go_simp
          (go_at_call 39; (with_reducible refine (HMX.out _ (by repeat' (first | (with_reducible exact Grows.refl _) | (with_reducible refine Grows.alloc ?_ _) | (with_reducible refine Grows.drew ?_) | (with_reducible refine Grows.ext ?_ _ _)))).mono ?_); rintro e w' ⟨rfl, h54, d54, rfl⟩)
          refine hK.out _ _ ?_ ?_
          · ((try dsimp only); try trivial)
          clear hK K hHeld
          intro hHeld
          try simp only [Act.put, List.getElem_toArray, List.getElem_cons_succ, List.getElem_cons_zero, List.setIfInBounds_toArray, List.set_cons_zero, List.set_cons_succ]
          refine wpAnyH_ready (rs := [4]) (by kernel_rfl) (by simp) ?_
          refine AllReadyH.cons rfl (fun K hK => ?_) AllReadyH.nil
          simp only [List.getElem_toArray, List.getElem_cons_succ, List.getElem_cons_zero]
          go_simp
          (go_at_call 81; (with_reducible refine (height_any _ _ _).mono ?_); rintro e w' ⟨rfl, h55, d55, rfl⟩)
          refine hK.out _ _ ?_ ?_
          · ((try dsimp only); try trivial)
          clear hK K hHeld
          intro hHeld
          try simp only [Act.put, List.getElem_toArray, List.getElem_cons_succ, List.getElem_cons_zero, List.setIfInBounds_toArray, List.set_cons_zero, List.set_cons_succ]
          refine wpAnyH_take (i := 10) (v := ?v28_10) rfl (by kernel_rfl) (by kernel_rfl) (by kernel_rfl) (fun _ _ _ h => h) (Or.inl ⟨by kernel_rfl, ?y28_10⟩) (by assumption) ?r28_10
          case y28_10 => ((intro w hSw; (try dsimp only at hSw); go_simp); (try go_ints); (try with_reducible rfl))
          try simp only [Act.put, List.getElem_toArray, List.getElem_cons_succ, List.getElem_cons_zero, List.setIfInBounds_toArray, List.set_cons_zero, List.set_cons_succ]
          refine wpAnyH_take (i := 12) (v := ?v29_12) rfl (by kernel_rfl) (by kernel_rfl) (by kernel_rfl) (fun _ _ _ h => h) (Or.inl ⟨by kernel_rfl, ?y29_12⟩) (by assumption) ?r29_12
          case y29_12 => ((intro w hSw; (try dsimp only at hSw); go_simp); (try go_ints); (try with_reducible rfl))
          try simp only [Act.put, List.getElem_toArray, List.getElem_cons_succ, List.getElem_cons_zero, List.setIfInBounds_toArray, List.set_cons_zero, List.set_cons_succ]
          refine wpAnyH_ready (rs := [13]) (by kernel_rfl) (by simp) ?_
          refine AllReadyH.cons rfl (fun K hK => ?_) AllReadyH.nil
          simp only [List.getElem_toArray, List.getElem_cons_succ, List.getElem_cons_zero]
          go_simp
          skip
          refine hK.out _ _ ?_ ?_
          · ((try dsimp only); try trivial)
          clear hK K hHeld
          intro hHeld
          try simp only [Act.put, List.getElem_toArray, List.getElem_cons_succ, List.getElem_cons_zero, List.setIfInBounds_toArray, List.set_cons_zero, List.set_cons_succ]
          refine wpAnyH_ready (rs := [14]) (by kernel_rfl) (by simp) ?_
          refine AllReadyH.cons rfl (fun K hK => ?_) AllReadyH.nil
          simp only [List.getElem_toArray, List.getElem_cons_succ, List.getElem_cons_zero]
          rw [if_pos (by kernel_rfl)]
          (refine wp_app _ (.tmp 64) (.tmp 77) 23 rfl W2.heap.size 3 i0 _ 1 8 Try.underlying23 hi0 hz0 hz1 hz2 rfl (by decide) m 1 (intC (lens.take m)) _ (HO.out.grows (by repeat' (first | (with_reducible exact Grows.refl _) | (with_reducible refine Grows.alloc ?_ _) | (with_reducible refine Grows.drew ?_) | (with_reducible refine Grows.ext ?_ _ _)))) (cells_new1 (by simp)) (by simp [Value.oneCell']) (by unfold maxLen; omega) (by omega) (by simp; omega) ?_; intro v3 w3 row3 q1 q2 q3 _; have hgq : Grows W2 w3 := appended_grows (HG.out.trans (by repeat' (first | (with_reducible exact Grows.refl _) | (with_reducible refine Grows.alloc ?_ _) | (with_reducible refine Grows.drew ?_) | (with_reducible refine Grows.ext ?_ _ _)))) q2 (fun k e => (q3 k e).1))
          refine hK.out _ _ ?_ ?_
          · ((try dsimp only); try trivial)
          clear hK K hHeld
          intro hHeld
          try simp only [Act.put, List.setIfInBounds_toArray, List.set_cons_zero, List.set_cons_succ]
          refine wpAnyH_take (i := 15) (v := ?v32_15) rfl (by kernel_rfl) (by kernel_rfl) (by kernel_rfl) (fun _ _ _ h => h) (Or.inl ⟨by kernel_rfl, ?y32_15⟩) (by assumption) ?r32_15
          case y32_15 => ((intro w hSw; (try dsimp only at hSw); go_simp); (try go_ints); (try with_reducible rfl))
          try simp only [Act.put, List.getElem_toArray, List.getElem_cons_succ, List.getElem_cons_zero, List.setIfInBounds_toArray, List.set_cons_zero, List.set_cons_succ]
          refine wpAnyH_done (by kernel_rfl) ?_ _
          clear hHeld
          go_wp2_with fail
          go_roundw
          case rel => exact ⟨m + 1, _, rfl, by omega, by go_num, by rw [HSN.out], by rw [take_snoc HLM.out, ← intC_append]; exact DstAt.last q1 (by unfold alongM alongL; simp only [show ¬ (3 : Int) = 2 by decide, if_false]; omega), hgq⟩
          case measure => simp [intOf]; omega
        · have e : m = ks.length := by omega
          subst e
          have e2 : lens.take ks.length = lens := List.take_of_length_le (by rw [HLL.out]; omega)
          rw [e2] at ho
          obtain ⟨oa, oc, rfl⟩ := app_len ho
          have HO2 := Lib.hid ho
          clear hg ho e2
          go_wp2_with fail
          go_ret
          exact ⟨_, rfl, ints_of_cells HLL.out HO2.out.cells (fun _ _ _ => trivial) (by rw [HLL.out]; omega), HG0.out.trans (HG2.out.trans HG.out)⟩
end Go.Proofs.Ytbobpgegkmcapaa

