/-
  Walks: the closures of Split and Resize. Walks: the closure of Resize. Walks: Resize.
-/
import Derived.Test.YtbobpgegkmcapaaRows
import Derived.Test.YtbobpgegkmcapaaE1
import Derived.Test.YtbobpgegkmcapaaE2
import Derived.Test.YtbobpgegkmcapaaE8
import Derived.WalkKit
import Derived.WalkSpells
import Derived.WalkLawsBesides
import Derived.Handy
import Derived.Laws.Rows
import Derived.Great.BuildSlice
import Derived.Deep.Heap
import Derived.IntWalk
import Derived.Lib.Hide
import Derived.Outline
import Derived.Deep.Light
import Derived.Deep.LoopGhost
import Derived.BigGuardPart
import Derived.BigQuiet
import Derived.Deep.QuietTactic
import Derived.Deep.RegionHeld3
import Derived.Deep.DeepCutAuto
import Derived.Deep.CutBlock
import Derived.OwnWalk
import Derived.Maps.AppendAt
import Derived.Test.YtbobpgegkmcapaaE3
import Derived.Test.YtbobpgegkmcapaaE5
namespace Go.Proofs.Ytbobpgegkmcapaa
open Go.RowKit

theorem ints_one {S : Nat → Prop} {w : World} {x : Int} {n : Nat} (hn : w.heap.size = n) (hs : S n) : IntsAt S (w.alloc (.cells #[.int .i64 x] 3)) (.slice (some ⟨n, 0, none⟩) 1 1) [x] := by
  subst hn
  have hb : Blk (w.alloc (.cells #[.int .i64 x] 3)) w.heap.size 3 _ := Blk.new rfl
  refine ⟨_, 1, rfl, Nat.le_refl _, Nat.le_trans (show 1 ≤ 2 by decide) (by decide), fun _ => ⟨_, 0, rfl, hb.lt, hs, fun i y hi => ?_⟩⟩
  match i, hi with
  | 0, hi =>
    obtain rfl : x = y := by simpa using hi
    exact hb.one.1
theorem leaf_lay (S : Nat → Prop) (w : World) (p : Int) : LayAt S w (leafL p) (.slice none 0 0) (.slice none 0 0) := LayAt_mk.2 ⟨IntsAt.nil _ _ _ _, KidsAt.nil _ _ _ _⟩
theorem kids_leaf {S : Nat → Prop} {w : World} {p : Int} {n : Nat} (hn : w.heap.size = n) (hs : S n) : KidsAt S (w.alloc (.cells #[.int .i64 1, .int .i64 p, .slice none 0 0, .slice none 0 0] 25)) (.slice (some ⟨n, 0, none⟩) 1 1) [leafL p] := kids_one (l := leafL p) hn hs (leaf_lay _ _ _)
theorem kids_mk {S : Nat → Prop} {w : World} {k p : Int} {ks : List Lay} {ws : List Int} {vk vw : Value} {n : Nat} (hn : w.heap.size = n) (hs : S n) (h : LayAt S w (.mk k p ks ws) vk vw) : KidsAt S (w.alloc (.cells #[.int .i64 k, .int .i64 p, vk, vw] 25)) (.slice (some ⟨n, 0, none⟩) 1 1) [.mk k p ks ws] := kids_one (l := .mk k p ks ws) hn hs h
/-- What Split's closure holds on to. -/
structure SplitC (S0 : Nat → Prop) (w : World) (p1 p2 p3 : Nat) (kind fresh pane : Int) (vkp vwp : Value) : Prop where
  k : Blk w p1 3 #[.int .i64 kind]
  f : Blk w p2 3 #[.int .i64 fresh]
  p : Blk w p3 25 #[.int .i64 kind, .int .i64 0, vkp, vwp]
  l : LayAt S0 w (.mk kind 0 [leafL pane, leafL fresh] [1, 1]) vkp vwp
set_option maxRecDepth 100000 in
set_option maxHeartbeats 4000000 in
theorem edit_split {S0 : Nat → Prop} {w : World} {p1 p2 p3 : Nat} {kind fresh pane : Int} {vkp vwp : Value} (hC : SplitC S0 w p1 p2 p3 kind fresh pane vkp vwp) :
    EdAt64 (.pointer (some ⟨p1, 0, none⟩)) (.pointer (some ⟨p2, 0, none⟩)) (.pointer (some ⟨p3, 0, none⟩)) S0 w (splitE kind fresh pane) := by
  intro S x i vk vw W g h1 hS hok hn hi h
  obtain ⟨k, p, ks, ws⟩ := x
  obtain ⟨hv, hkok⟩ := okTree_iff.1 hok
  dsimp only [Lay.kids] at hi hkok
  have hk1 : ¬ k = 1 := by
    rintro rfl
    have hz : ks = [] := (validN_leaf hv rfl).2.2.1
    rw [hz] at hi
    simp at hi
  obtain ⟨-, -, -, hwl, -, -⟩ := validN_split hv hk1
  have hks : ks.length ≤ 1000 := by
    rw [panesL_mk, if_neg hk1] at hn
    have := len_kids (ks := ks) hkok
    omega
  dsimp only [Lay.ws, Lay.kids] at hwl
  obtain ⟨a, cap, G, rfl, hcap, hmx, hin⟩ := h.kids.open_ rfl
  obtain ⟨wa, wc, rfl, hwc, hwm, hiw⟩ := h.ints.open_ (show (Lay.mk k p ks ws).ws.length = ks.length from hwl)
  dsimp only [Lay.kids, Lay.ws, Lay.kind, Lay.pane] at hcap hmx hin hiw h ⊢
  obtain ⟨wb, woff, y, rfl, hwb, -, hy, -, y0⟩ := hiw.at_ (i := i) (by rw [hwl]; exact hi)
  have HY := Lib.hid hy
  have HWL := Lib.hid hwl
  have hpr : LayAt S W (.mk kind 0 [leafL pane, leafL fresh] [1, 1]) vkp vwp := (hC.l.lt.grows g).mono fun b _ hb => h1 b hb.2 hb.1
  obtain ⟨pk, pkc, rfl, -⟩ := hpr.kids.shape rfl
  obtain ⟨pw, pwc, rfl, -⟩ := hpr.ints.shape rfl
  have HPR := Lib.hid hpr.but
  have HF := Lib.hid fun W' (g' : Grows W W') => (⟨(hC.k.grows (g.trans g')).one.1, (hC.f.grows (g.trans g')).one.1, (hC.p.grows (g.trans g')).four, (hC.k.grows (g.trans g')).lt, (hC.f.grows (g.trans g')).lt, (hC.p.grows (g.trans g')).lt, (g'.cellOf hwb).trans y0, Nat.lt_of_lt_of_le hwb g'.size⟩ : _ ∧ _ ∧ (_ ∧ _ ∧ _ ∧ _) ∧ _ ∧ _ ∧ _ ∧ _ ∧ _)
  have HH := Lib.hid h.but
  have HS := Lib.hid hS
  have hne : ks ≠ [] := by
    rintro rfl
    simp at hi
  have hwne : ws ≠ [] := by
    rintro rfl
    simp at hwl
    omega
  clear hpr h1 hS hok hn h hv hkok hin hiw hwb y0 hC hy hk1 hwl
  go_enter Try.func64, Try.ntmps64
  go_upto_region 1 with fail
  refine abs_worldM (fun W' => Grows W W' ∧ Blk W' W.heap.size 25 #[.int .i64 k, .int .i64 p, .slice a ks.length cap, .slice (some ⟨wb, woff, none⟩) ks.length wc] ∧ Blk W' (W.heap.size + 1) 25 #[.int .i64 0, .int .i64 0, .slice none 0 0, .slice none 0 0]) (boxes2 _ _ _) ?_
  rintro W1 ⟨hg1, hb0, hb1⟩
  obtain ⟨a0, a1, a2, a3⟩ := hb0.four
  obtain ⟨f0, f1, f2, f3⟩ := hb0.four'
  obtain ⟨b0, b1, b2, b3⟩ := hb1.four
  obtain ⟨d0, d1, d2, d3⟩ := hb1.four'
  have hl0 := hb0.lt
  have hl1 := hb1.lt
  have HB0 := Lib.hid hb0
  have HB1 := Lib.hid hb1
  have HG1 := Lib.hid hg1
  have hs1 := hg1.size
  obtain ⟨q1, q2, ⟨q3, q4, q5, q6⟩, l1, l2, l3, q7, l7⟩ := HF.out _ hg1
  clear hb0 hb1 hg1
  by_cases hkk : k = kind
  · subst hkk
    have E2 := Lib.hid (splitE_same (k := k) (p := p) (fresh := fresh) (pane := pane) (ks := ks) HY.out)
    have HKW := Lib.hid fun W' (g : Grows W1 W') vf (hvf : KidsAt (But W.heap.size S) W' vf [leafL fresh]) => with_kidsJ (S := But W.heap.size S) ks [leafL fresh] (i + 1) 0 (i + 1) 0 rfl rfl (.slice a ks.length cap) vf W' (but_fresh HS.out (by have := g.size; omega)) hne (by omega) (by omega) (by simp) (HH.out.kids.grows (HG1.out.trans g)) hvf
    have HIW := Lib.hid fun W' (g : Grows W1 W') vf (hvf : IntsAt (But W.heap.size S) W' vf [y]) => with_intsJ (S := But W.heap.size S) ws [y] (i + 1) 0 (i + 1) 0 rfl rfl (.slice (some ⟨wb, woff, none⟩) ks.length wc) vf W' (but_fresh HS.out (by have := g.size; omega)) hwne (by rw [HWL.out]; omega) (by rw [HWL.out]; omega) (by simp) (HH.out.ints.grows (HG1.out.trans g)) hvf
    go_upto_region 2 with fail
    have hgS := Grows.refl W1
    refine wp_region_B [20, 22] (fun w' => Grows W w') (fun w' => Grows W1 w') (by kernel_rfl) ⟨(HG1.out.trans (by exact hgS.trans (by repeat' (first | (with_reducible exact hgc) | (with_reducible exact Grows.refl _) | (with_reducible refine Grows.alloc ?_ _) | (with_reducible refine Grows.drew ?_) | (with_reducible refine Grows.ext ?_ _ _))))), (by exact hgS.trans (by repeat' (first | (with_reducible exact hgc) | (with_reducible exact Grows.refl _) | (with_reducible refine Grows.alloc ?_ _) | (with_reducible refine Grows.drew ?_) | (with_reducible refine Grows.ext ?_ _ _))))⟩ (fun hHeld => ?_)
    refine abs_anyB (fun W' => Grows W1 W' ∧ True) ⟨(by repeat' (first | (with_reducible exact hgc) | (with_reducible exact Grows.refl _) | (with_reducible refine Grows.alloc ?_ _) | (with_reducible refine Grows.drew ?_) | (with_reducible refine Grows.ext ?_ _ _))), trivial⟩ ?_
    clear hHeld
    rintro X82 ⟨hgn, hex⟩
    have hgS := hgS.trans hgn
    have hsS := hgS.size
    clear hgn hex
    have hHeld := And.intro (HG1.out.trans hgS) hgS
    refine anyB_take (i := 0) (v := ?v83_0) rfl (by kernel_rfl) (by kernel_rfl) (by kernel_rfl) (by kernel_rfl) (fun _ _ _ h => h) (Or.inl ⟨by kernel_rfl, ?y83_0⟩) (by kernel_rfl) hHeld ?r83_0
    case y83_0 => ((rintro w ⟨hTw, hSw⟩; obtain ⟨q1, q2, ⟨q3, q4, q5, q6⟩, l1, l2, l3, q7, l7⟩ := HF.out w hTw; obtain ⟨a0, a1, a2, a3⟩ := (HB0.out.grows hSw).four; have hl0 := (HB0.out.grows hSw).lt; clear hSw hTw; go_simp); (try go_ints); (try with_reducible rfl))
    try simp only [Act.put, List.getElem_toArray, List.getElem_cons_zero, List.setIfInBounds_toArray, List.set_cons_zero, List.set_cons_succ]
    refine anyB_take (i := 1) (v := ?v84_1) rfl (by kernel_rfl) (by kernel_rfl) (by kernel_rfl) (by kernel_rfl) (fun _ _ _ h => h) (Or.inl ⟨by kernel_rfl, ?y84_1⟩) (by kernel_rfl) hHeld ?r84_1
    case y84_1 => ((rintro w ⟨hTw, hSw⟩; obtain ⟨q1, q2, ⟨q3, q4, q5, q6⟩, l1, l2, l3, q7, l7⟩ := HF.out w hTw; obtain ⟨a0, a1, a2, a3⟩ := (HB0.out.grows hSw).four; have hl0 := (HB0.out.grows hSw).lt; clear hSw hTw; go_simp); (try go_ints); (try with_reducible rfl))
    try simp only [Act.put, List.getElem_toArray, List.getElem_cons_succ, List.getElem_cons_zero, List.setIfInBounds_toArray, List.set_cons_zero, List.set_cons_succ]
    refine anyB_takeT (i := 2) (v := ?v85_2) rfl (by kernel_rfl) (by kernel_rfl) (by kernel_rfl) (by kernel_rfl) (fun _ _ _ h => h) (Or.inl ⟨by kernel_rfl, ?y85_2⟩) hHeld.1 (fun _ => hHeld.2) ?r85_2
    case y85_2 => ((intro w hTw; obtain ⟨q1, q2, ⟨q3, q4, q5, q6⟩, l1, l2, l3, q7, l7⟩ := HF.out w hTw; clear hTw; go_simp); (try go_ints); (try with_reducible rfl))
    try simp only [Act.put, List.getElem_toArray, List.getElem_cons_succ, List.getElem_cons_zero, List.setIfInBounds_toArray, List.set_cons_zero, List.set_cons_succ]
    refine anyB_takeT (i := 3) (v := ?v86_3) rfl (by kernel_rfl) (by kernel_rfl) (by kernel_rfl) (by kernel_rfl) (fun _ _ _ h => h) (Or.inl ⟨by kernel_rfl, ?y86_3⟩) hHeld.1 (fun _ => hHeld.2) ?r86_3
    case y86_3 => ((intro w hTw; obtain ⟨q1, q2, ⟨q3, q4, q5, q6⟩, l1, l2, l3, q7, l7⟩ := HF.out w hTw; clear hTw; go_simp); (try go_ints); (try with_reducible rfl))
    try simp only [Act.put, List.getElem_toArray, List.getElem_cons_succ, List.getElem_cons_zero, List.setIfInBounds_toArray, List.set_cons_zero, List.set_cons_succ]
    refine anyB_takeT (i := 4) (v := ?v87_4) rfl (by kernel_rfl) (by kernel_rfl) (by kernel_rfl) (by kernel_rfl) (fun _ _ _ h => h) (Or.inl ⟨by kernel_rfl, ?y87_4⟩) hHeld.1 (fun _ => hHeld.2) ?r87_4
    case y87_4 => ((intro w hTw; obtain ⟨q1, q2, ⟨q3, q4, q5, q6⟩, l1, l2, l3, q7, l7⟩ := HF.out w hTw; clear hTw; go_simp); (try go_ints); (try with_reducible rfl))
    try simp only [Act.put, List.getElem_toArray, List.getElem_cons_succ, List.getElem_cons_zero, List.setIfInBounds_toArray, List.set_cons_zero, List.set_cons_succ]
    refine anyB_take (i := 8) (v := ?v88_8) rfl (by kernel_rfl) (by kernel_rfl) (by kernel_rfl) (by kernel_rfl) (fun _ _ _ h => h) (Or.inl ⟨by kernel_rfl, ?y88_8⟩) (by kernel_rfl) hHeld ?r88_8
    case y88_8 => ((rintro w ⟨hTw, hSw⟩; obtain ⟨q1, q2, ⟨q3, q4, q5, q6⟩, l1, l2, l3, q7, l7⟩ := HF.out w hTw; obtain ⟨a0, a1, a2, a3⟩ := (HB0.out.grows hSw).four; have hl0 := (HB0.out.grows hSw).lt; clear hSw hTw; go_simp); (try go_ints); (try with_reducible rfl))
    try simp only [Act.put, List.getElem_toArray, List.getElem_cons_succ, List.getElem_cons_zero, List.setIfInBounds_toArray, List.set_cons_zero, List.set_cons_succ]
    refine anyB_take (i := 9) (v := ?v89_9) rfl (by kernel_rfl) (by kernel_rfl) (by kernel_rfl) (by kernel_rfl) (fun _ _ _ h => h) (Or.inl ⟨by kernel_rfl, ?y89_9⟩) (by kernel_rfl) hHeld ?r89_9
    case y89_9 => ((rintro w ⟨hTw, hSw⟩; obtain ⟨q1, q2, ⟨q3, q4, q5, q6⟩, l1, l2, l3, q7, l7⟩ := HF.out w hTw; obtain ⟨a0, a1, a2, a3⟩ := (HB0.out.grows hSw).four; have hl0 := (HB0.out.grows hSw).lt; clear hSw hTw; go_simp); (try go_ints); (try with_reducible rfl))
    try simp only [Act.put, List.getElem_toArray, List.getElem_cons_succ, List.getElem_cons_zero, List.setIfInBounds_toArray, List.set_cons_zero, List.set_cons_succ]
    refine anyB_takeT (i := 10) (v := ?v90_10) rfl (by kernel_rfl) (by kernel_rfl) (by kernel_rfl) (by kernel_rfl) (fun _ _ _ h => h) (Or.inl ⟨by kernel_rfl, ?y90_10⟩) hHeld.1 (fun _ => hHeld.2) ?r90_10
    case y90_10 => ((intro w hTw; obtain ⟨q1, q2, ⟨q3, q4, q5, q6⟩, l1, l2, l3, q7, l7⟩ := HF.out w hTw; clear hTw; go_simp); (try go_ints); (try with_reducible rfl))
    try simp only [Act.put, List.getElem_toArray, List.getElem_cons_succ, List.getElem_cons_zero, List.setIfInBounds_toArray, List.set_cons_zero, List.set_cons_succ]
    refine anyB_takeT (i := 11) (v := ?v91_11) rfl (by kernel_rfl) (by kernel_rfl) (by kernel_rfl) (by kernel_rfl) (fun _ _ _ h => h) (Or.inl ⟨by kernel_rfl, ?y91_11⟩) hHeld.1 (fun _ => hHeld.2) ?r91_11
    case y91_11 => ((intro w hTw; obtain ⟨q1, q2, ⟨q3, q4, q5, q6⟩, l1, l2, l3, q7, l7⟩ := HF.out w hTw; clear hTw; go_simp); (try go_ints); (try with_reducible rfl))
    try simp only [Act.put, List.getElem_toArray, List.getElem_cons_succ, List.getElem_cons_zero, List.setIfInBounds_toArray, List.set_cons_zero, List.set_cons_succ]
    refine anyB_take (i := 12) (v := ?v92_12) rfl (by kernel_rfl) (by kernel_rfl) (by kernel_rfl) (by kernel_rfl) (fun _ _ _ h => h) (Or.inl ⟨by kernel_rfl, ?y92_12⟩) (by kernel_rfl) hHeld ?r92_12
    case y92_12 => ((rintro w ⟨hTw, hSw⟩; obtain ⟨q1, q2, ⟨q3, q4, q5, q6⟩, l1, l2, l3, q7, l7⟩ := HF.out w hTw; obtain ⟨a0, a1, a2, a3⟩ := (HB0.out.grows hSw).four; have hl0 := (HB0.out.grows hSw).lt; clear hSw hTw; go_simp); (try go_ints); (try with_reducible rfl))
    try simp only [Act.put, List.getElem_toArray, List.getElem_cons_succ, List.getElem_cons_zero, List.setIfInBounds_toArray, List.set_cons_zero, List.set_cons_succ]
    refine anyB_take (i := 13) (v := ?v93_13) rfl (by kernel_rfl) (by kernel_rfl) (by kernel_rfl) (by kernel_rfl) (fun _ _ _ h => h) (Or.inl ⟨by kernel_rfl, ?y93_13⟩) (by kernel_rfl) hHeld ?r93_13
    case y93_13 => ((rintro w ⟨hTw, hSw⟩; obtain ⟨q1, q2, ⟨q3, q4, q5, q6⟩, l1, l2, l3, q7, l7⟩ := HF.out w hTw; obtain ⟨a0, a1, a2, a3⟩ := (HB0.out.grows hSw).four; have hl0 := (HB0.out.grows hSw).lt; clear hSw hTw; go_simp); (try go_ints); (try with_reducible rfl))
    try simp only [Act.put, List.getElem_toArray, List.getElem_cons_succ, List.getElem_cons_zero, List.setIfInBounds_toArray, List.set_cons_zero, List.set_cons_succ]
    refine anyB_takeT (i := 14) (v := ?v94_14) rfl (by kernel_rfl) (by kernel_rfl) (by kernel_rfl) (by kernel_rfl) (fun _ _ _ h => h) (Or.inl ⟨by kernel_rfl, ?y94_14⟩) hHeld.1 (fun _ => hHeld.2) ?r94_14
    case y94_14 => ((intro w hTw; obtain ⟨q1, q2, ⟨q3, q4, q5, q6⟩, l1, l2, l3, q7, l7⟩ := HF.out w hTw; clear hTw; go_simp); (try go_ints); (try with_reducible rfl))
    try simp only [Act.put, List.getElem_toArray, List.getElem_cons_succ, List.getElem_cons_zero, List.setIfInBounds_toArray, List.set_cons_zero, List.set_cons_succ]
    refine anyB_takeT (i := 15) (v := ?v95_15) rfl (by kernel_rfl) (by kernel_rfl) (by kernel_rfl) (by kernel_rfl) (fun _ _ _ h => h) (Or.inl ⟨by kernel_rfl, ?y95_15⟩) hHeld.1 (fun _ => hHeld.2) ?r95_15
    case y95_15 => ((intro w hTw; obtain ⟨q1, q2, ⟨q3, q4, q5, q6⟩, l1, l2, l3, q7, l7⟩ := HF.out w hTw; clear hTw; go_simp); (try go_ints); (try with_reducible rfl))
    try simp only [Act.put, List.getElem_toArray, List.getElem_cons_succ, List.getElem_cons_zero, List.setIfInBounds_toArray, List.set_cons_zero, List.set_cons_succ]
    refine anyB_takeT (i := 16) (v := ?v96_16) rfl (by kernel_rfl) (by kernel_rfl) (by kernel_rfl) (by kernel_rfl) (fun _ _ _ h => h) (Or.inl ⟨by kernel_rfl, ?y96_16⟩) hHeld.1 (fun _ => hHeld.2) ?r96_16
    case y96_16 => ((intro w hTw; obtain ⟨q1, q2, ⟨q3, q4, q5, q6⟩, l1, l2, l3, q7, l7⟩ := HF.out w hTw; clear hTw; go_simp); (try go_ints); (try with_reducible rfl))
    try simp only [Act.put, List.getElem_toArray, List.getElem_cons_succ, List.getElem_cons_zero, List.setIfInBounds_toArray, List.set_cons_zero, List.set_cons_succ]
    refine anyB_ready2 (i := 5) (j := 17) (by kernel_rfl) rfl rfl (fun K hK => ?_) (fun K hK => ?_)
    · simp only [List.getElem_toArray, List.getElem_cons_succ, List.getElem_cons_zero]
      go_simp
      (go_at_call 63; (with_reducible refine (leaf_any _ _).mono ?_); rintro e w6 ⟨rfl, h6, d6, rfl⟩)
      refine hK.out _ _ ⟨?_, ?_⟩ ?_
      · ((try dsimp only); exact HG1.out.trans (hgS.trans (by repeat' (first | (with_reducible exact hgc) | (with_reducible exact Grows.refl _) | (with_reducible refine Grows.alloc ?_ _) | (with_reducible refine Grows.drew ?_) | (with_reducible refine Grows.ext ?_ _ _)))))
      · ((try dsimp only); exact hgS.trans (by repeat' (first | (with_reducible exact hgc) | (with_reducible exact Grows.refl _) | (with_reducible refine Grows.alloc ?_ _) | (with_reducible refine Grows.drew ?_) | (with_reducible refine Grows.ext ?_ _ _))))
      clear hK K hHeld
      intro hHeld
      try simp only [Act.put, List.getElem_toArray, List.getElem_cons_succ, List.getElem_cons_zero, List.setIfInBounds_toArray, List.set_cons_zero, List.set_cons_succ]
      refine abs_anyB (fun W' => Grows X82 W' ∧ True) ⟨(by repeat' (first | (with_reducible exact hgc) | (with_reducible exact Grows.refl _) | (with_reducible refine Grows.alloc ?_ _) | (with_reducible refine Grows.drew ?_) | (with_reducible refine Grows.ext ?_ _ _))), trivial⟩ ?_
      clear hHeld
      rintro X97 ⟨hgn, hex⟩
      have hgS := hgS.trans hgn
      have hsS := hgS.size
      clear hgn hex
      have hHeld := And.intro (HG1.out.trans hgS) hgS
      refine anyB_ready2 (i := 6) (j := 17) (by kernel_rfl) rfl rfl (fun K hK => ?_) (fun K hK => ?_)
      · simp only [List.getElem_toArray, List.getElem_cons_succ, List.getElem_cons_zero]
        go_simp
        skip
        refine hK.out _ _ ⟨?_, ?_⟩ ?_
        · ((try dsimp only); exact HG1.out.trans (hgS.trans (by repeat' (first | (with_reducible exact hgc) | (with_reducible exact Grows.refl _) | (with_reducible refine Grows.alloc ?_ _) | (with_reducible refine Grows.drew ?_) | (with_reducible refine Grows.ext ?_ _ _)))))
        · ((try dsimp only); exact hgS.trans (by repeat' (first | (with_reducible exact hgc) | (with_reducible exact Grows.refl _) | (with_reducible refine Grows.alloc ?_ _) | (with_reducible refine Grows.drew ?_) | (with_reducible refine Grows.ext ?_ _ _))))
        clear hK K hHeld
        intro hHeld
        try simp only [Act.put, List.getElem_toArray, List.getElem_cons_succ, List.getElem_cons_zero, List.setIfInBounds_toArray, List.set_cons_zero, List.set_cons_succ]
        refine abs_anyB (fun W' => Grows X97 W' ∧ KidsAt (But W.heap.size S) W' _ [leafL fresh]) ⟨(by repeat' (first | (with_reducible exact hgc) | (with_reducible exact Grows.refl _) | (with_reducible refine Grows.alloc ?_ _) | (with_reducible refine Grows.drew ?_) | (with_reducible refine Grows.ext ?_ _ _))), kids_leaf rfl (but_fresh (m := W.heap.size + 2) HS.out (Nat.le_refl _) _ (by omega))⟩ ?_
        clear hHeld
        rintro X98 ⟨hgn, hex⟩
        have HLF := Lib.hid hex
        have hgS := hgS.trans hgn
        have hsS := hgS.size
        clear hgn hex
        have hHeld := And.intro (HG1.out.trans hgS) hgS
        refine anyB_ready2 (i := 7) (j := 17) (by kernel_rfl) rfl rfl (fun K hK => ?_) (fun K hK => ?_)
        · simp only [List.getElem_toArray, List.getElem_cons_succ, List.getElem_cons_zero]
          go_simp
          (go_at_call 65; (with_reducible refine (HKW.out _ hgS _ HLF.out).mono ?_); rintro e w7 ⟨v7, rfl, hv7, hgc⟩; obtain ⟨a7, c7, rfl, -⟩ := hv7.shape rfl)
          refine hK.out _ _ ⟨?_, ?_⟩ ?_
          · ((try dsimp only); exact HG1.out.trans (hgS.trans (by repeat' (first | (with_reducible exact hgc) | (with_reducible exact Grows.refl _) | (with_reducible refine Grows.alloc ?_ _) | (with_reducible refine Grows.drew ?_) | (with_reducible refine Grows.ext ?_ _ _)))))
          · ((try dsimp only); exact hgS.trans (by repeat' (first | (with_reducible exact hgc) | (with_reducible exact Grows.refl _) | (with_reducible refine Grows.alloc ?_ _) | (with_reducible refine Grows.drew ?_) | (with_reducible refine Grows.ext ?_ _ _))))
          clear hK K hHeld
          intro hHeld
          try simp only [Act.put, List.getElem_toArray, List.getElem_cons_succ, List.getElem_cons_zero, List.setIfInBounds_toArray, List.set_cons_zero, List.set_cons_succ]
          refine abs_anyB (fun W' => Grows X98 W' ∧ KidsAt (But W.heap.size S) W' (.slice a7 (withL ks (i + 1) 0 [leafL fresh]).length c7) (withL ks (i + 1) 0 [leafL fresh])) ⟨(by repeat' (first | (with_reducible exact hgc) | (with_reducible exact Grows.refl _) | (with_reducible refine Grows.alloc ?_ _) | (with_reducible refine Grows.drew ?_) | (with_reducible refine Grows.ext ?_ _ _))), hv7⟩ ?_
          clear hHeld
          rintro X99 ⟨hgn, hex⟩
          have HLF := Lib.hid (HLF.out.grows hgn)
          have HV7 := Lib.hid hex
          have hgS := hgS.trans hgn
          have hsS := hgS.size
          clear hgn hex
          have hHeld := And.intro (HG1.out.trans hgS) hgS
          refine anyB_takeT (i := 19) (v := ?v100_19) rfl (by kernel_rfl) (by kernel_rfl) (by kernel_rfl) (by kernel_rfl) (fun _ _ _ h => h) (Or.inl ⟨by kernel_rfl, ?y100_19⟩) hHeld.1 (fun _ => hHeld.2) ?r100_19
          case y100_19 => ((intro w hTw; obtain ⟨q1, q2, ⟨q3, q4, q5, q6⟩, l1, l2, l3, q7, l7⟩ := HF.out w hTw; clear hTw; go_simp); (try go_ints); (try with_reducible rfl))
          try simp only [Act.put, List.getElem_toArray, List.getElem_cons_succ, List.getElem_cons_zero, List.setIfInBounds_toArray, List.set_cons_zero, List.set_cons_succ]
          refine anyB_ready (i := 17) (by kernel_rfl) rfl (fun K hK => ?_)
          simp only [List.getElem_toArray, List.getElem_cons_succ, List.getElem_cons_zero]
          go_simp
          skip
          refine hK.out _ _ ⟨?_, ?_⟩ ?_
          · ((try dsimp only); exact HG1.out.trans (hgS.trans (by repeat' (first | (with_reducible exact hgc) | (with_reducible exact Grows.refl _) | (with_reducible refine Grows.alloc ?_ _) | (with_reducible refine Grows.drew ?_) | (with_reducible refine Grows.ext ?_ _ _)))))
          · ((try dsimp only); exact hgS.trans (by repeat' (first | (with_reducible exact hgc) | (with_reducible exact Grows.refl _) | (with_reducible refine Grows.alloc ?_ _) | (with_reducible refine Grows.drew ?_) | (with_reducible refine Grows.ext ?_ _ _))))
          clear hK K hHeld
          intro hHeld
          try simp only [Act.put, List.getElem_toArray, List.getElem_cons_succ, List.getElem_cons_zero, List.setIfInBounds_toArray, List.set_cons_zero, List.set_cons_succ]
          refine abs_anyB (fun W' => Grows X99 W' ∧ IntsAt (But W.heap.size S) W' _ [y]) ⟨(by repeat' (first | (with_reducible exact hgc) | (with_reducible exact Grows.refl _) | (with_reducible refine Grows.alloc ?_ _) | (with_reducible refine Grows.drew ?_) | (with_reducible refine Grows.ext ?_ _ _))), ints_one rfl (but_fresh (m := W.heap.size + 2) HS.out (Nat.le_refl _) _ (by omega))⟩ ?_
          clear hHeld
          rintro X101 ⟨hgn, hex⟩
          have HLF := Lib.hid (HLF.out.grows hgn)
          have HV7 := Lib.hid (HV7.out.grows hgn)
          have HYY := Lib.hid hex
          have hgS := hgS.trans hgn
          have hsS := hgS.size
          clear hgn hex
          have hHeld := And.intro (HG1.out.trans hgS) hgS
          refine anyB_ready (i := 18) (by kernel_rfl) rfl (fun K hK => ?_)
          simp only [List.getElem_toArray, List.getElem_cons_succ, List.getElem_cons_zero]
          go_simp
          (go_at_call 59; (with_reducible refine (HIW.out _ hgS _ HYY.out).mono ?_); rintro e w8 ⟨v8, rfl, hv8, hgc⟩; obtain ⟨a8, c8, rfl, -⟩ := hv8.shape rfl)
          refine hK.out _ _ ⟨?_, ?_⟩ ?_
          · ((try dsimp only); exact HG1.out.trans (hgS.trans (by repeat' (first | (with_reducible exact hgc) | (with_reducible exact Grows.refl _) | (with_reducible refine Grows.alloc ?_ _) | (with_reducible refine Grows.drew ?_) | (with_reducible refine Grows.ext ?_ _ _)))))
          · ((try dsimp only); exact hgS.trans (by repeat' (first | (with_reducible exact hgc) | (with_reducible exact Grows.refl _) | (with_reducible refine Grows.alloc ?_ _) | (with_reducible refine Grows.drew ?_) | (with_reducible refine Grows.ext ?_ _ _))))
          clear hK K hHeld
          intro hHeld
          try simp only [Act.put, List.getElem_toArray, List.getElem_cons_succ, List.getElem_cons_zero, List.setIfInBounds_toArray, List.set_cons_zero, List.set_cons_succ]
          refine abs_anyB (fun W' => Grows X101 W' ∧ IntsAt (But W.heap.size S) W' (.slice a8 (withL ws (i + 1) 0 [y]).length c8) (withL ws (i + 1) 0 [y])) ⟨(by repeat' (first | (with_reducible exact hgc) | (with_reducible exact Grows.refl _) | (with_reducible refine Grows.alloc ?_ _) | (with_reducible refine Grows.drew ?_) | (with_reducible refine Grows.ext ?_ _ _))), hv8⟩ ?_
          clear hHeld
          rintro X102 ⟨hgn, hex⟩
          have HLF := Lib.hid (HLF.out.grows hgn)
          have HYY := Lib.hid (HYY.out.grows hgn)
          have HV7 := Lib.hid (HV7.out.grows hgn)
          have HV8 := Lib.hid hex
          have hgS := hgS.trans hgn
          have hsS := hgS.size
          clear hgn hex
          have hHeld := And.intro (HG1.out.trans hgS) hgS
          refine anyB_over (i := 20) (by kernel_rfl) rfl (by kernel_rfl) (fun K hK => ?_)
          simp only [List.getElem_toArray, List.getElem_cons_succ, List.getElem_cons_zero]
          obtain ⟨a0, a1, a2, a3⟩ := (HB0.out.grows hgS).four
          obtain ⟨f0, f1, f2, f3⟩ := (HB0.out.grows hgS).four'
          have hl0 := (HB0.out.grows hgS).lt
          go_simp
          skip
          refine hK.out _ _ ?_ ?_
          · ((try dsimp only); exact (by repeat' (first | (with_reducible exact HG1.out.trans hgS) | (with_reducible exact HG1.out.trans (hgS.trans hgc)) | (with_reducible refine Grows.setCell ?_ (Nat.le_refl _) _) | (with_reducible refine Grows.alloc ?_ _) | (with_reducible refine Grows.drew ?_) | (with_reducible refine Grows.ext ?_ _ _))))
          clear hK K hHeld
          intro hHeld
          try simp only [Act.put, List.getElem_toArray, List.getElem_cons_succ, List.getElem_cons_zero, List.setIfInBounds_toArray, List.set_cons_zero, List.set_cons_succ]
          refine anyB_takeT (i := 21) (v := ?v103_21) rfl (by kernel_rfl) (by kernel_rfl) (by kernel_rfl) (by kernel_rfl) (fun _ _ _ h => h) (Or.inl ⟨by kernel_rfl, ?y103_21⟩) hHeld (outB_no (by kernel_rfl)) ?r103_21
          case y103_21 => ((intro w hTw; obtain ⟨q1, q2, ⟨q3, q4, q5, q6⟩, l1, l2, l3, q7, l7⟩ := HF.out w hTw; clear hTw; go_simp); (try go_ints); (try with_reducible rfl))
          try simp only [Act.put, List.getElem_toArray, List.getElem_cons_succ, List.getElem_cons_zero, List.setIfInBounds_toArray, List.set_cons_zero, List.set_cons_succ]
          refine anyB_over (i := 22) (by kernel_rfl) rfl (by kernel_rfl) (fun K hK => ?_)
          simp only [List.getElem_toArray, List.getElem_cons_succ, List.getElem_cons_zero]
          go_simp
          skip
          refine hK.out _ _ ?_ ?_
          · ((try dsimp only); exact (by repeat' (first | (with_reducible exact HG1.out.trans hgS) | (with_reducible exact HG1.out.trans (hgS.trans hgc)) | (with_reducible refine Grows.setCell ?_ (Nat.le_refl _) _) | (with_reducible refine Grows.alloc ?_ _) | (with_reducible refine Grows.drew ?_) | (with_reducible refine Grows.ext ?_ _ _))))
          clear hK K hHeld
          intro hHeld
          try simp only [Act.put, List.getElem_toArray, List.getElem_cons_succ, List.getElem_cons_zero, List.setIfInBounds_toArray, List.set_cons_zero, List.set_cons_succ]
          refine anyB_done (by kernel_rfl) ?_ _
          try clear hHeld
          refine abs_exit (fun W' => Grows W W' ∧ Blk W' W.heap.size 25 #[.int .i64 k, .int .i64 p, .slice a7 (withL ks (i + 1) 0 [leafL fresh]).length c7, .slice a8 (withL ws (i + 1) 0 [y]).length c8] ∧ Blk W' (W.heap.size + 1) 25 #[.int .i64 0, .int .i64 0, .slice none 0 0, .slice none 0 0] ∧ LayAt (But W.heap.size S) W' (.mk k p (withL ks (i + 1) 0 [leafL fresh]) (withL ws (i + 1) 0 [y])) (.slice a7 (withL ks (i + 1) 0 [leafL fresh]).length c7) (.slice a8 (withL ws (i + 1) 0 [y]).length c8)) ⟨((HG1.out.trans hgS).setCell (Nat.le_refl _) _).setCell (Nat.le_refl _) _, ((HB0.out.grows hgS).set 2 _).set 3 _, ((HB1.out.grows hgS).other (by omega)).other (by omega), (LayAt_mk.2 ⟨HV8.out, HV7.out⟩).same (but_set0.trans but_set0)⟩ ?_
          rintro W9 ⟨hg9, hb9, hb10, hl9⟩
          obtain ⟨a0, a1, a2, a3⟩ := hb9.four
          obtain ⟨b0, b1, b2, b3⟩ := hb10.four
          obtain ⟨d0, d1, d2, d3⟩ := hb10.four'
          have hl0 := hb9.lt
          have hl1 := hb10.lt
          have HL9 := Lib.hid hl9
          have HB9 := Lib.hid hb10
          have HG9 := Lib.hid hg9
          clear hb9 hb10 hl9 hg9
          go_wp2_with fail
          refine ret_cell_tmp (t := 25) (n := W.heap.size + 1) (cs := #[.int .i64 k, .int .i64 p, .slice a7 (withL ks (i + 1) 0 [leafL fresh]).length c7, .slice a8 (withL ws (i + 1) 0 [y]).length c8]) rfl rfl rfl ?_ Try.underlying25 rfl (by kernel_rfl) rfl ?_
          · exact HB9.out.set4
          · rw [E2.out]
            exact ⟨_, _, rfl, (HL9.out.same (but_set4 _ _ _ _)).unbut, HG9.out.set4 (by omega) _ _ _ _⟩
        · simp only [List.getElem_toArray, List.getElem_cons_succ, List.getElem_cons_zero]
          go_simp
          skip
          refine hK.out _ _ ⟨?_, ?_⟩ ?_
          · ((try dsimp only); exact HG1.out.trans (hgS.trans (by repeat' (first | (with_reducible exact hgc) | (with_reducible exact Grows.refl _) | (with_reducible refine Grows.alloc ?_ _) | (with_reducible refine Grows.drew ?_) | (with_reducible refine Grows.ext ?_ _ _)))))
          · ((try dsimp only); exact hgS.trans (by repeat' (first | (with_reducible exact hgc) | (with_reducible exact Grows.refl _) | (with_reducible refine Grows.alloc ?_ _) | (with_reducible refine Grows.drew ?_) | (with_reducible refine Grows.ext ?_ _ _))))
          clear hK K hHeld
          intro hHeld
          try simp only [Act.put, List.getElem_toArray, List.getElem_cons_succ, List.getElem_cons_zero, List.setIfInBounds_toArray, List.set_cons_zero, List.set_cons_succ]
          refine abs_anyB (fun W' => Grows X98 W' ∧ IntsAt (But W.heap.size S) W' _ [y]) ⟨(by repeat' (first | (with_reducible exact hgc) | (with_reducible exact Grows.refl _) | (with_reducible refine Grows.alloc ?_ _) | (with_reducible refine Grows.drew ?_) | (with_reducible refine Grows.ext ?_ _ _))), ints_one rfl (but_fresh (m := W.heap.size + 2) HS.out (Nat.le_refl _) _ (by omega))⟩ ?_
          clear hHeld
          rintro X104 ⟨hgn, hex⟩
          have HLF := Lib.hid (HLF.out.grows hgn)
          have HYY := Lib.hid hex
          have hgS := hgS.trans hgn
          have hsS := hgS.size
          clear hgn hex
          have hHeld := And.intro (HG1.out.trans hgS) hgS
          refine anyB_ready (i := 7) (by kernel_rfl) rfl (fun K hK => ?_)
          simp only [List.getElem_toArray, List.getElem_cons_succ, List.getElem_cons_zero]
          go_simp
          (go_at_call 65; (with_reducible refine (HKW.out _ hgS _ HLF.out).mono ?_); rintro e w7 ⟨v7, rfl, hv7, hgc⟩; obtain ⟨a7, c7, rfl, -⟩ := hv7.shape rfl)
          refine hK.out _ _ ⟨?_, ?_⟩ ?_
          · ((try dsimp only); exact HG1.out.trans (hgS.trans (by repeat' (first | (with_reducible exact hgc) | (with_reducible exact Grows.refl _) | (with_reducible refine Grows.alloc ?_ _) | (with_reducible refine Grows.drew ?_) | (with_reducible refine Grows.ext ?_ _ _)))))
          · ((try dsimp only); exact hgS.trans (by repeat' (first | (with_reducible exact hgc) | (with_reducible exact Grows.refl _) | (with_reducible refine Grows.alloc ?_ _) | (with_reducible refine Grows.drew ?_) | (with_reducible refine Grows.ext ?_ _ _))))
          clear hK K hHeld
          intro hHeld
          try simp only [Act.put, List.getElem_toArray, List.getElem_cons_succ, List.getElem_cons_zero, List.setIfInBounds_toArray, List.set_cons_zero, List.set_cons_succ]
          refine abs_anyB (fun W' => Grows X104 W' ∧ KidsAt (But W.heap.size S) W' (.slice a7 (withL ks (i + 1) 0 [leafL fresh]).length c7) (withL ks (i + 1) 0 [leafL fresh])) ⟨(by repeat' (first | (with_reducible exact hgc) | (with_reducible exact Grows.refl _) | (with_reducible refine Grows.alloc ?_ _) | (with_reducible refine Grows.drew ?_) | (with_reducible refine Grows.ext ?_ _ _))), hv7⟩ ?_
          clear hHeld
          rintro X105 ⟨hgn, hex⟩
          have HLF := Lib.hid (HLF.out.grows hgn)
          have HYY := Lib.hid (HYY.out.grows hgn)
          have HV7 := Lib.hid hex
          have hgS := hgS.trans hgn
          have hsS := hgS.size
          clear hgn hex
          have hHeld := And.intro (HG1.out.trans hgS) hgS
          refine anyB_takeT (i := 19) (v := ?v106_19) rfl (by kernel_rfl) (by kernel_rfl) (by kernel_rfl) (by kernel_rfl) (fun _ _ _ h => h) (Or.inl ⟨by kernel_rfl, ?y106_19⟩) hHeld.1 (fun _ => hHeld.2) ?r106_19
          case y106_19 => ((intro w hTw; obtain ⟨q1, q2, ⟨q3, q4, q5, q6⟩, l1, l2, l3, q7, l7⟩ := HF.out w hTw; clear hTw; go_simp); (try go_ints); (try with_reducible rfl))
          try simp only [Act.put, List.getElem_toArray, List.getElem_cons_succ, List.getElem_cons_zero, List.setIfInBounds_toArray, List.set_cons_zero, List.set_cons_succ]
          refine anyB_ready (i := 18) (by kernel_rfl) rfl (fun K hK => ?_)
          simp only [List.getElem_toArray, List.getElem_cons_succ, List.getElem_cons_zero]
          go_simp
          (go_at_call 59; (with_reducible refine (HIW.out _ hgS _ HYY.out).mono ?_); rintro e w8 ⟨v8, rfl, hv8, hgc⟩; obtain ⟨a8, c8, rfl, -⟩ := hv8.shape rfl)
          refine hK.out _ _ ⟨?_, ?_⟩ ?_
          · ((try dsimp only); exact HG1.out.trans (hgS.trans (by repeat' (first | (with_reducible exact hgc) | (with_reducible exact Grows.refl _) | (with_reducible refine Grows.alloc ?_ _) | (with_reducible refine Grows.drew ?_) | (with_reducible refine Grows.ext ?_ _ _)))))
          · ((try dsimp only); exact hgS.trans (by repeat' (first | (with_reducible exact hgc) | (with_reducible exact Grows.refl _) | (with_reducible refine Grows.alloc ?_ _) | (with_reducible refine Grows.drew ?_) | (with_reducible refine Grows.ext ?_ _ _))))
          clear hK K hHeld
          intro hHeld
          try simp only [Act.put, List.getElem_toArray, List.getElem_cons_succ, List.getElem_cons_zero, List.setIfInBounds_toArray, List.set_cons_zero, List.set_cons_succ]
          refine abs_anyB (fun W' => Grows X105 W' ∧ IntsAt (But W.heap.size S) W' (.slice a8 (withL ws (i + 1) 0 [y]).length c8) (withL ws (i + 1) 0 [y])) ⟨(by repeat' (first | (with_reducible exact hgc) | (with_reducible exact Grows.refl _) | (with_reducible refine Grows.alloc ?_ _) | (with_reducible refine Grows.drew ?_) | (with_reducible refine Grows.ext ?_ _ _))), hv8⟩ ?_
          clear hHeld
          rintro X107 ⟨hgn, hex⟩
          have HLF := Lib.hid (HLF.out.grows hgn)
          have HYY := Lib.hid (HYY.out.grows hgn)
          have HV7 := Lib.hid (HV7.out.grows hgn)
          have HV8 := Lib.hid hex
          have hgS := hgS.trans hgn
          have hsS := hgS.size
          clear hgn hex
          have hHeld := And.intro (HG1.out.trans hgS) hgS
          refine anyB_over (i := 20) (by kernel_rfl) rfl (by kernel_rfl) (fun K hK => ?_)
          simp only [List.getElem_toArray, List.getElem_cons_succ, List.getElem_cons_zero]
          obtain ⟨a0, a1, a2, a3⟩ := (HB0.out.grows hgS).four
          obtain ⟨f0, f1, f2, f3⟩ := (HB0.out.grows hgS).four'
          have hl0 := (HB0.out.grows hgS).lt
          go_simp
          skip
          refine hK.out _ _ ?_ ?_
          · ((try dsimp only); exact (by repeat' (first | (with_reducible exact HG1.out.trans hgS) | (with_reducible exact HG1.out.trans (hgS.trans hgc)) | (with_reducible refine Grows.setCell ?_ (Nat.le_refl _) _) | (with_reducible refine Grows.alloc ?_ _) | (with_reducible refine Grows.drew ?_) | (with_reducible refine Grows.ext ?_ _ _))))
          clear hK K hHeld
          intro hHeld
          try simp only [Act.put, List.getElem_toArray, List.getElem_cons_succ, List.getElem_cons_zero, List.setIfInBounds_toArray, List.set_cons_zero, List.set_cons_succ]
          refine anyB_takeT (i := 21) (v := ?v108_21) rfl (by kernel_rfl) (by kernel_rfl) (by kernel_rfl) (by kernel_rfl) (fun _ _ _ h => h) (Or.inl ⟨by kernel_rfl, ?y108_21⟩) hHeld (outB_no (by kernel_rfl)) ?r108_21
          case y108_21 => ((intro w hTw; obtain ⟨q1, q2, ⟨q3, q4, q5, q6⟩, l1, l2, l3, q7, l7⟩ := HF.out w hTw; clear hTw; go_simp); (try go_ints); (try with_reducible rfl))
          try simp only [Act.put, List.getElem_toArray, List.getElem_cons_succ, List.getElem_cons_zero, List.setIfInBounds_toArray, List.set_cons_zero, List.set_cons_succ]
          refine anyB_over (i := 22) (by kernel_rfl) rfl (by kernel_rfl) (fun K hK => ?_)
          simp only [List.getElem_toArray, List.getElem_cons_succ, List.getElem_cons_zero]
          go_simp
          skip
          refine hK.out _ _ ?_ ?_
          · ((try dsimp only); exact (by repeat' (first | (with_reducible exact HG1.out.trans hgS) | (with_reducible exact HG1.out.trans (hgS.trans hgc)) | (with_reducible refine Grows.setCell ?_ (Nat.le_refl _) _) | (with_reducible refine Grows.alloc ?_ _) | (with_reducible refine Grows.drew ?_) | (with_reducible refine Grows.ext ?_ _ _))))
          clear hK K hHeld
          intro hHeld
          try simp only [Act.put, List.getElem_toArray, List.getElem_cons_succ, List.getElem_cons_zero, List.setIfInBounds_toArray, List.set_cons_zero, List.set_cons_succ]
          refine anyB_done (by kernel_rfl) ?_ _
          try clear hHeld
          refine abs_exit (fun W' => Grows W W' ∧ Blk W' W.heap.size 25 #[.int .i64 k, .int .i64 p, .slice a7 (withL ks (i + 1) 0 [leafL fresh]).length c7, .slice a8 (withL ws (i + 1) 0 [y]).length c8] ∧ Blk W' (W.heap.size + 1) 25 #[.int .i64 0, .int .i64 0, .slice none 0 0, .slice none 0 0] ∧ LayAt (But W.heap.size S) W' (.mk k p (withL ks (i + 1) 0 [leafL fresh]) (withL ws (i + 1) 0 [y])) (.slice a7 (withL ks (i + 1) 0 [leafL fresh]).length c7) (.slice a8 (withL ws (i + 1) 0 [y]).length c8)) ⟨((HG1.out.trans hgS).setCell (Nat.le_refl _) _).setCell (Nat.le_refl _) _, ((HB0.out.grows hgS).set 2 _).set 3 _, ((HB1.out.grows hgS).other (by omega)).other (by omega), (LayAt_mk.2 ⟨HV8.out, HV7.out⟩).same (but_set0.trans but_set0)⟩ ?_
          rintro W9 ⟨hg9, hb9, hb10, hl9⟩
          obtain ⟨a0, a1, a2, a3⟩ := hb9.four
          obtain ⟨b0, b1, b2, b3⟩ := hb10.four
          obtain ⟨d0, d1, d2, d3⟩ := hb10.four'
          have hl0 := hb9.lt
          have hl1 := hb10.lt
          have HL9 := Lib.hid hl9
          have HB9 := Lib.hid hb10
          have HG9 := Lib.hid hg9
          clear hb9 hb10 hl9 hg9
          go_wp2_with fail
          refine ret_cell_tmp (t := 25) (n := W.heap.size + 1) (cs := #[.int .i64 k, .int .i64 p, .slice a7 (withL ks (i + 1) 0 [leafL fresh]).length c7, .slice a8 (withL ws (i + 1) 0 [y]).length c8]) rfl rfl rfl ?_ Try.underlying25 rfl (by kernel_rfl) rfl ?_
          · exact HB9.out.set4
          · rw [E2.out]
            exact ⟨_, _, rfl, (HL9.out.same (but_set4 _ _ _ _)).unbut, HG9.out.set4 (by omega) _ _ _ _⟩
      · simp only [List.getElem_toArray, List.getElem_cons_succ, List.getElem_cons_zero]
        go_simp
        skip
        refine hK.out _ _ ⟨?_, ?_⟩ ?_
        · ((try dsimp only); exact HG1.out.trans (hgS.trans (by repeat' (first | (with_reducible exact hgc) | (with_reducible exact Grows.refl _) | (with_reducible refine Grows.alloc ?_ _) | (with_reducible refine Grows.drew ?_) | (with_reducible refine Grows.ext ?_ _ _)))))
        · ((try dsimp only); exact hgS.trans (by repeat' (first | (with_reducible exact hgc) | (with_reducible exact Grows.refl _) | (with_reducible refine Grows.alloc ?_ _) | (with_reducible refine Grows.drew ?_) | (with_reducible refine Grows.ext ?_ _ _))))
        clear hK K hHeld
        intro hHeld
        try simp only [Act.put, List.getElem_toArray, List.getElem_cons_succ, List.getElem_cons_zero, List.setIfInBounds_toArray, List.set_cons_zero, List.set_cons_succ]
        refine abs_anyB (fun W' => Grows X97 W' ∧ IntsAt (But W.heap.size S) W' _ [y]) ⟨(by repeat' (first | (with_reducible exact hgc) | (with_reducible exact Grows.refl _) | (with_reducible refine Grows.alloc ?_ _) | (with_reducible refine Grows.drew ?_) | (with_reducible refine Grows.ext ?_ _ _))), ints_one rfl (but_fresh (m := W.heap.size + 2) HS.out (Nat.le_refl _) _ (by omega))⟩ ?_
        clear hHeld
        rintro X109 ⟨hgn, hex⟩
        have HYY := Lib.hid hex
        have hgS := hgS.trans hgn
        have hsS := hgS.size
        clear hgn hex
        have hHeld := And.intro (HG1.out.trans hgS) hgS
        refine anyB_ready (i := 6) (by kernel_rfl) rfl (fun K hK => ?_)
        simp only [List.getElem_toArray, List.getElem_cons_succ, List.getElem_cons_zero]
        go_simp
        skip
        refine hK.out _ _ ⟨?_, ?_⟩ ?_
        · ((try dsimp only); exact HG1.out.trans (hgS.trans (by repeat' (first | (with_reducible exact hgc) | (with_reducible exact Grows.refl _) | (with_reducible refine Grows.alloc ?_ _) | (with_reducible refine Grows.drew ?_) | (with_reducible refine Grows.ext ?_ _ _)))))
        · ((try dsimp only); exact hgS.trans (by repeat' (first | (with_reducible exact hgc) | (with_reducible exact Grows.refl _) | (with_reducible refine Grows.alloc ?_ _) | (with_reducible refine Grows.drew ?_) | (with_reducible refine Grows.ext ?_ _ _))))
        clear hK K hHeld
        intro hHeld
        try simp only [Act.put, List.getElem_toArray, List.getElem_cons_succ, List.getElem_cons_zero, List.setIfInBounds_toArray, List.set_cons_zero, List.set_cons_succ]
        refine abs_anyB (fun W' => Grows X109 W' ∧ KidsAt (But W.heap.size S) W' _ [leafL fresh]) ⟨(by repeat' (first | (with_reducible exact hgc) | (with_reducible exact Grows.refl _) | (with_reducible refine Grows.alloc ?_ _) | (with_reducible refine Grows.drew ?_) | (with_reducible refine Grows.ext ?_ _ _))), kids_leaf rfl (but_fresh (m := W.heap.size + 2) HS.out (Nat.le_refl _) _ (by omega))⟩ ?_
        clear hHeld
        rintro X110 ⟨hgn, hex⟩
        have HYY := Lib.hid (HYY.out.grows hgn)
        have HLF := Lib.hid hex
        have hgS := hgS.trans hgn
        have hsS := hgS.size
        clear hgn hex
        have hHeld := And.intro (HG1.out.trans hgS) hgS
        refine anyB_ready (i := 7) (by kernel_rfl) rfl (fun K hK => ?_)
        simp only [List.getElem_toArray, List.getElem_cons_succ, List.getElem_cons_zero]
        go_simp
        (go_at_call 65; (with_reducible refine (HKW.out _ hgS _ HLF.out).mono ?_); rintro e w7 ⟨v7, rfl, hv7, hgc⟩; obtain ⟨a7, c7, rfl, -⟩ := hv7.shape rfl)
        refine hK.out _ _ ⟨?_, ?_⟩ ?_
        · ((try dsimp only); exact HG1.out.trans (hgS.trans (by repeat' (first | (with_reducible exact hgc) | (with_reducible exact Grows.refl _) | (with_reducible refine Grows.alloc ?_ _) | (with_reducible refine Grows.drew ?_) | (with_reducible refine Grows.ext ?_ _ _)))))
        · ((try dsimp only); exact hgS.trans (by repeat' (first | (with_reducible exact hgc) | (with_reducible exact Grows.refl _) | (with_reducible refine Grows.alloc ?_ _) | (with_reducible refine Grows.drew ?_) | (with_reducible refine Grows.ext ?_ _ _))))
        clear hK K hHeld
        intro hHeld
        try simp only [Act.put, List.getElem_toArray, List.getElem_cons_succ, List.getElem_cons_zero, List.setIfInBounds_toArray, List.set_cons_zero, List.set_cons_succ]
        refine abs_anyB (fun W' => Grows X110 W' ∧ KidsAt (But W.heap.size S) W' (.slice a7 (withL ks (i + 1) 0 [leafL fresh]).length c7) (withL ks (i + 1) 0 [leafL fresh])) ⟨(by repeat' (first | (with_reducible exact hgc) | (with_reducible exact Grows.refl _) | (with_reducible refine Grows.alloc ?_ _) | (with_reducible refine Grows.drew ?_) | (with_reducible refine Grows.ext ?_ _ _))), hv7⟩ ?_
        clear hHeld
        rintro X111 ⟨hgn, hex⟩
        have HLF := Lib.hid (HLF.out.grows hgn)
        have HYY := Lib.hid (HYY.out.grows hgn)
        have HV7 := Lib.hid hex
        have hgS := hgS.trans hgn
        have hsS := hgS.size
        clear hgn hex
        have hHeld := And.intro (HG1.out.trans hgS) hgS
        refine anyB_takeT (i := 19) (v := ?v112_19) rfl (by kernel_rfl) (by kernel_rfl) (by kernel_rfl) (by kernel_rfl) (fun _ _ _ h => h) (Or.inl ⟨by kernel_rfl, ?y112_19⟩) hHeld.1 (fun _ => hHeld.2) ?r112_19
        case y112_19 => ((intro w hTw; obtain ⟨q1, q2, ⟨q3, q4, q5, q6⟩, l1, l2, l3, q7, l7⟩ := HF.out w hTw; clear hTw; go_simp); (try go_ints); (try with_reducible rfl))
        try simp only [Act.put, List.getElem_toArray, List.getElem_cons_succ, List.getElem_cons_zero, List.setIfInBounds_toArray, List.set_cons_zero, List.set_cons_succ]
        refine anyB_ready (i := 18) (by kernel_rfl) rfl (fun K hK => ?_)
        simp only [List.getElem_toArray, List.getElem_cons_succ, List.getElem_cons_zero]
        go_simp
        (go_at_call 59; (with_reducible refine (HIW.out _ hgS _ HYY.out).mono ?_); rintro e w8 ⟨v8, rfl, hv8, hgc⟩; obtain ⟨a8, c8, rfl, -⟩ := hv8.shape rfl)
        refine hK.out _ _ ⟨?_, ?_⟩ ?_
        · ((try dsimp only); exact HG1.out.trans (hgS.trans (by repeat' (first | (with_reducible exact hgc) | (with_reducible exact Grows.refl _) | (with_reducible refine Grows.alloc ?_ _) | (with_reducible refine Grows.drew ?_) | (with_reducible refine Grows.ext ?_ _ _)))))
        · ((try dsimp only); exact hgS.trans (by repeat' (first | (with_reducible exact hgc) | (with_reducible exact Grows.refl _) | (with_reducible refine Grows.alloc ?_ _) | (with_reducible refine Grows.drew ?_) | (with_reducible refine Grows.ext ?_ _ _))))
        clear hK K hHeld
        intro hHeld
        try simp only [Act.put, List.getElem_toArray, List.getElem_cons_succ, List.getElem_cons_zero, List.setIfInBounds_toArray, List.set_cons_zero, List.set_cons_succ]
        refine abs_anyB (fun W' => Grows X111 W' ∧ IntsAt (But W.heap.size S) W' (.slice a8 (withL ws (i + 1) 0 [y]).length c8) (withL ws (i + 1) 0 [y])) ⟨(by repeat' (first | (with_reducible exact hgc) | (with_reducible exact Grows.refl _) | (with_reducible refine Grows.alloc ?_ _) | (with_reducible refine Grows.drew ?_) | (with_reducible refine Grows.ext ?_ _ _))), hv8⟩ ?_
        clear hHeld
        rintro X113 ⟨hgn, hex⟩
        have HLF := Lib.hid (HLF.out.grows hgn)
        have HYY := Lib.hid (HYY.out.grows hgn)
        have HV7 := Lib.hid (HV7.out.grows hgn)
        have HV8 := Lib.hid hex
        have hgS := hgS.trans hgn
        have hsS := hgS.size
        clear hgn hex
        have hHeld := And.intro (HG1.out.trans hgS) hgS
        refine anyB_over (i := 20) (by kernel_rfl) rfl (by kernel_rfl) (fun K hK => ?_)
        simp only [List.getElem_toArray, List.getElem_cons_succ, List.getElem_cons_zero]
        obtain ⟨a0, a1, a2, a3⟩ := (HB0.out.grows hgS).four
        obtain ⟨f0, f1, f2, f3⟩ := (HB0.out.grows hgS).four'
        have hl0 := (HB0.out.grows hgS).lt
        go_simp
        skip
        refine hK.out _ _ ?_ ?_
        · ((try dsimp only); exact (by repeat' (first | (with_reducible exact HG1.out.trans hgS) | (with_reducible exact HG1.out.trans (hgS.trans hgc)) | (with_reducible refine Grows.setCell ?_ (Nat.le_refl _) _) | (with_reducible refine Grows.alloc ?_ _) | (with_reducible refine Grows.drew ?_) | (with_reducible refine Grows.ext ?_ _ _))))
        clear hK K hHeld
        intro hHeld
        try simp only [Act.put, List.getElem_toArray, List.getElem_cons_succ, List.getElem_cons_zero, List.setIfInBounds_toArray, List.set_cons_zero, List.set_cons_succ]
        refine anyB_takeT (i := 21) (v := ?v114_21) rfl (by kernel_rfl) (by kernel_rfl) (by kernel_rfl) (by kernel_rfl) (fun _ _ _ h => h) (Or.inl ⟨by kernel_rfl, ?y114_21⟩) hHeld (outB_no (by kernel_rfl)) ?r114_21
        case y114_21 => ((intro w hTw; obtain ⟨q1, q2, ⟨q3, q4, q5, q6⟩, l1, l2, l3, q7, l7⟩ := HF.out w hTw; clear hTw; go_simp); (try go_ints); (try with_reducible rfl))
        try simp only [Act.put, List.getElem_toArray, List.getElem_cons_succ, List.getElem_cons_zero, List.setIfInBounds_toArray, List.set_cons_zero, List.set_cons_succ]
        refine anyB_over (i := 22) (by kernel_rfl) rfl (by kernel_rfl) (fun K hK => ?_)
        simp only [List.getElem_toArray, List.getElem_cons_succ, List.getElem_cons_zero]
        go_simp
        skip
        refine hK.out _ _ ?_ ?_
        · ((try dsimp only); exact (by repeat' (first | (with_reducible exact HG1.out.trans hgS) | (with_reducible exact HG1.out.trans (hgS.trans hgc)) | (with_reducible refine Grows.setCell ?_ (Nat.le_refl _) _) | (with_reducible refine Grows.alloc ?_ _) | (with_reducible refine Grows.drew ?_) | (with_reducible refine Grows.ext ?_ _ _))))
        clear hK K hHeld
        intro hHeld
        try simp only [Act.put, List.getElem_toArray, List.getElem_cons_succ, List.getElem_cons_zero, List.setIfInBounds_toArray, List.set_cons_zero, List.set_cons_succ]
        refine anyB_done (by kernel_rfl) ?_ _
        try clear hHeld
        refine abs_exit (fun W' => Grows W W' ∧ Blk W' W.heap.size 25 #[.int .i64 k, .int .i64 p, .slice a7 (withL ks (i + 1) 0 [leafL fresh]).length c7, .slice a8 (withL ws (i + 1) 0 [y]).length c8] ∧ Blk W' (W.heap.size + 1) 25 #[.int .i64 0, .int .i64 0, .slice none 0 0, .slice none 0 0] ∧ LayAt (But W.heap.size S) W' (.mk k p (withL ks (i + 1) 0 [leafL fresh]) (withL ws (i + 1) 0 [y])) (.slice a7 (withL ks (i + 1) 0 [leafL fresh]).length c7) (.slice a8 (withL ws (i + 1) 0 [y]).length c8)) ⟨((HG1.out.trans hgS).setCell (Nat.le_refl _) _).setCell (Nat.le_refl _) _, ((HB0.out.grows hgS).set 2 _).set 3 _, ((HB1.out.grows hgS).other (by omega)).other (by omega), (LayAt_mk.2 ⟨HV8.out, HV7.out⟩).same (but_set0.trans but_set0)⟩ ?_
        rintro W9 ⟨hg9, hb9, hb10, hl9⟩
        obtain ⟨a0, a1, a2, a3⟩ := hb9.four
        obtain ⟨b0, b1, b2, b3⟩ := hb10.four
        obtain ⟨d0, d1, d2, d3⟩ := hb10.four'
        have hl0 := hb9.lt
        have hl1 := hb10.lt
        have HL9 := Lib.hid hl9
        have HB9 := Lib.hid hb10
        have HG9 := Lib.hid hg9
        clear hb9 hb10 hl9 hg9
        go_wp2_with fail
        refine ret_cell_tmp (t := 25) (n := W.heap.size + 1) (cs := #[.int .i64 k, .int .i64 p, .slice a7 (withL ks (i + 1) 0 [leafL fresh]).length c7, .slice a8 (withL ws (i + 1) 0 [y]).length c8]) rfl rfl rfl ?_ Try.underlying25 rfl (by kernel_rfl) rfl ?_
        · exact HB9.out.set4
        · rw [E2.out]
          exact ⟨_, _, rfl, (HL9.out.same (but_set4 _ _ _ _)).unbut, HG9.out.set4 (by omega) _ _ _ _⟩
    · simp only [List.getElem_toArray, List.getElem_cons_succ, List.getElem_cons_zero]
      go_simp
      skip
      refine hK.out _ _ ⟨?_, ?_⟩ ?_
      · ((try dsimp only); exact HG1.out.trans (hgS.trans (by repeat' (first | (with_reducible exact hgc) | (with_reducible exact Grows.refl _) | (with_reducible refine Grows.alloc ?_ _) | (with_reducible refine Grows.drew ?_) | (with_reducible refine Grows.ext ?_ _ _)))))
      · ((try dsimp only); exact hgS.trans (by repeat' (first | (with_reducible exact hgc) | (with_reducible exact Grows.refl _) | (with_reducible refine Grows.alloc ?_ _) | (with_reducible refine Grows.drew ?_) | (with_reducible refine Grows.ext ?_ _ _))))
      clear hK K hHeld
      intro hHeld
      try simp only [Act.put, List.getElem_toArray, List.getElem_cons_succ, List.getElem_cons_zero, List.setIfInBounds_toArray, List.set_cons_zero, List.set_cons_succ]
      refine abs_anyB (fun W' => Grows X82 W' ∧ IntsAt (But W.heap.size S) W' _ [y]) ⟨(by repeat' (first | (with_reducible exact hgc) | (with_reducible exact Grows.refl _) | (with_reducible refine Grows.alloc ?_ _) | (with_reducible refine Grows.drew ?_) | (with_reducible refine Grows.ext ?_ _ _))), ints_one rfl (but_fresh (m := W.heap.size + 2) HS.out (Nat.le_refl _) _ (by omega))⟩ ?_
      clear hHeld
      rintro X115 ⟨hgn, hex⟩
      have HYY := Lib.hid hex
      have hgS := hgS.trans hgn
      have hsS := hgS.size
      clear hgn hex
      have hHeld := And.intro (HG1.out.trans hgS) hgS
      refine anyB_ready (i := 5) (by kernel_rfl) rfl (fun K hK => ?_)
      simp only [List.getElem_toArray, List.getElem_cons_succ, List.getElem_cons_zero]
      go_simp
      (go_at_call 63; (with_reducible refine (leaf_any _ _).mono ?_); rintro e w6 ⟨rfl, h6, d6, rfl⟩)
      refine hK.out _ _ ⟨?_, ?_⟩ ?_
      · ((try dsimp only); exact HG1.out.trans (hgS.trans (by repeat' (first | (with_reducible exact hgc) | (with_reducible exact Grows.refl _) | (with_reducible refine Grows.alloc ?_ _) | (with_reducible refine Grows.drew ?_) | (with_reducible refine Grows.ext ?_ _ _)))))
      · ((try dsimp only); exact hgS.trans (by repeat' (first | (with_reducible exact hgc) | (with_reducible exact Grows.refl _) | (with_reducible refine Grows.alloc ?_ _) | (with_reducible refine Grows.drew ?_) | (with_reducible refine Grows.ext ?_ _ _))))
      clear hK K hHeld
      intro hHeld
      try simp only [Act.put, List.getElem_toArray, List.getElem_cons_succ, List.getElem_cons_zero, List.setIfInBounds_toArray, List.set_cons_zero, List.set_cons_succ]
      refine abs_anyB (fun W' => Grows X115 W' ∧ True) ⟨(by repeat' (first | (with_reducible exact hgc) | (with_reducible exact Grows.refl _) | (with_reducible refine Grows.alloc ?_ _) | (with_reducible refine Grows.drew ?_) | (with_reducible refine Grows.ext ?_ _ _))), trivial⟩ ?_
      clear hHeld
      rintro X116 ⟨hgn, hex⟩
      have HYY := Lib.hid (HYY.out.grows hgn)
      have hgS := hgS.trans hgn
      have hsS := hgS.size
      clear hgn hex
      have hHeld := And.intro (HG1.out.trans hgS) hgS
      refine anyB_ready (i := 6) (by kernel_rfl) rfl (fun K hK => ?_)
      simp only [List.getElem_toArray, List.getElem_cons_succ, List.getElem_cons_zero]
      go_simp
      skip
      refine hK.out _ _ ⟨?_, ?_⟩ ?_
      · ((try dsimp only); exact HG1.out.trans (hgS.trans (by repeat' (first | (with_reducible exact hgc) | (with_reducible exact Grows.refl _) | (with_reducible refine Grows.alloc ?_ _) | (with_reducible refine Grows.drew ?_) | (with_reducible refine Grows.ext ?_ _ _)))))
      · ((try dsimp only); exact hgS.trans (by repeat' (first | (with_reducible exact hgc) | (with_reducible exact Grows.refl _) | (with_reducible refine Grows.alloc ?_ _) | (with_reducible refine Grows.drew ?_) | (with_reducible refine Grows.ext ?_ _ _))))
      clear hK K hHeld
      intro hHeld
      try simp only [Act.put, List.getElem_toArray, List.getElem_cons_succ, List.getElem_cons_zero, List.setIfInBounds_toArray, List.set_cons_zero, List.set_cons_succ]
      refine abs_anyB (fun W' => Grows X116 W' ∧ KidsAt (But W.heap.size S) W' _ [leafL fresh]) ⟨(by repeat' (first | (with_reducible exact hgc) | (with_reducible exact Grows.refl _) | (with_reducible refine Grows.alloc ?_ _) | (with_reducible refine Grows.drew ?_) | (with_reducible refine Grows.ext ?_ _ _))), kids_leaf rfl (but_fresh (m := W.heap.size + 2) HS.out (Nat.le_refl _) _ (by omega))⟩ ?_
      clear hHeld
      rintro X117 ⟨hgn, hex⟩
      have HYY := Lib.hid (HYY.out.grows hgn)
      have HLF := Lib.hid hex
      have hgS := hgS.trans hgn
      have hsS := hgS.size
      clear hgn hex
      have hHeld := And.intro (HG1.out.trans hgS) hgS
      refine anyB_ready (i := 7) (by kernel_rfl) rfl (fun K hK => ?_)
      simp only [List.getElem_toArray, List.getElem_cons_succ, List.getElem_cons_zero]
      go_simp
      (go_at_call 65; (with_reducible refine (HKW.out _ hgS _ HLF.out).mono ?_); rintro e w7 ⟨v7, rfl, hv7, hgc⟩; obtain ⟨a7, c7, rfl, -⟩ := hv7.shape rfl)
      refine hK.out _ _ ⟨?_, ?_⟩ ?_
      · ((try dsimp only); exact HG1.out.trans (hgS.trans (by repeat' (first | (with_reducible exact hgc) | (with_reducible exact Grows.refl _) | (with_reducible refine Grows.alloc ?_ _) | (with_reducible refine Grows.drew ?_) | (with_reducible refine Grows.ext ?_ _ _)))))
      · ((try dsimp only); exact hgS.trans (by repeat' (first | (with_reducible exact hgc) | (with_reducible exact Grows.refl _) | (with_reducible refine Grows.alloc ?_ _) | (with_reducible refine Grows.drew ?_) | (with_reducible refine Grows.ext ?_ _ _))))
      clear hK K hHeld
      intro hHeld
      try simp only [Act.put, List.getElem_toArray, List.getElem_cons_succ, List.getElem_cons_zero, List.setIfInBounds_toArray, List.set_cons_zero, List.set_cons_succ]
      refine abs_anyB (fun W' => Grows X117 W' ∧ KidsAt (But W.heap.size S) W' (.slice a7 (withL ks (i + 1) 0 [leafL fresh]).length c7) (withL ks (i + 1) 0 [leafL fresh])) ⟨(by repeat' (first | (with_reducible exact hgc) | (with_reducible exact Grows.refl _) | (with_reducible refine Grows.alloc ?_ _) | (with_reducible refine Grows.drew ?_) | (with_reducible refine Grows.ext ?_ _ _))), hv7⟩ ?_
      clear hHeld
      rintro X118 ⟨hgn, hex⟩
      have HLF := Lib.hid (HLF.out.grows hgn)
      have HYY := Lib.hid (HYY.out.grows hgn)
      have HV7 := Lib.hid hex
      have hgS := hgS.trans hgn
      have hsS := hgS.size
      clear hgn hex
      have hHeld := And.intro (HG1.out.trans hgS) hgS
      refine anyB_takeT (i := 19) (v := ?v119_19) rfl (by kernel_rfl) (by kernel_rfl) (by kernel_rfl) (by kernel_rfl) (fun _ _ _ h => h) (Or.inl ⟨by kernel_rfl, ?y119_19⟩) hHeld.1 (fun _ => hHeld.2) ?r119_19
      case y119_19 => ((intro w hTw; obtain ⟨q1, q2, ⟨q3, q4, q5, q6⟩, l1, l2, l3, q7, l7⟩ := HF.out w hTw; clear hTw; go_simp); (try go_ints); (try with_reducible rfl))
      try simp only [Act.put, List.getElem_toArray, List.getElem_cons_succ, List.getElem_cons_zero, List.setIfInBounds_toArray, List.set_cons_zero, List.set_cons_succ]
      refine anyB_ready (i := 18) (by kernel_rfl) rfl (fun K hK => ?_)
      simp only [List.getElem_toArray, List.getElem_cons_succ, List.getElem_cons_zero]
      go_simp
      (go_at_call 59; (with_reducible refine (HIW.out _ hgS _ HYY.out).mono ?_); rintro e w8 ⟨v8, rfl, hv8, hgc⟩; obtain ⟨a8, c8, rfl, -⟩ := hv8.shape rfl)
      refine hK.out _ _ ⟨?_, ?_⟩ ?_
      · ((try dsimp only); exact HG1.out.trans (hgS.trans (by repeat' (first | (with_reducible exact hgc) | (with_reducible exact Grows.refl _) | (with_reducible refine Grows.alloc ?_ _) | (with_reducible refine Grows.drew ?_) | (with_reducible refine Grows.ext ?_ _ _)))))
      · ((try dsimp only); exact hgS.trans (by repeat' (first | (with_reducible exact hgc) | (with_reducible exact Grows.refl _) | (with_reducible refine Grows.alloc ?_ _) | (with_reducible refine Grows.drew ?_) | (with_reducible refine Grows.ext ?_ _ _))))
      clear hK K hHeld
      intro hHeld
      try simp only [Act.put, List.getElem_toArray, List.getElem_cons_succ, List.getElem_cons_zero, List.setIfInBounds_toArray, List.set_cons_zero, List.set_cons_succ]
      refine abs_anyB (fun W' => Grows X118 W' ∧ IntsAt (But W.heap.size S) W' (.slice a8 (withL ws (i + 1) 0 [y]).length c8) (withL ws (i + 1) 0 [y])) ⟨(by repeat' (first | (with_reducible exact hgc) | (with_reducible exact Grows.refl _) | (with_reducible refine Grows.alloc ?_ _) | (with_reducible refine Grows.drew ?_) | (with_reducible refine Grows.ext ?_ _ _))), hv8⟩ ?_
      clear hHeld
      rintro X120 ⟨hgn, hex⟩
      have HLF := Lib.hid (HLF.out.grows hgn)
      have HYY := Lib.hid (HYY.out.grows hgn)
      have HV7 := Lib.hid (HV7.out.grows hgn)
      have HV8 := Lib.hid hex
      have hgS := hgS.trans hgn
      have hsS := hgS.size
      clear hgn hex
      have hHeld := And.intro (HG1.out.trans hgS) hgS
      refine anyB_over (i := 20) (by kernel_rfl) rfl (by kernel_rfl) (fun K hK => ?_)
      simp only [List.getElem_toArray, List.getElem_cons_succ, List.getElem_cons_zero]
      obtain ⟨a0, a1, a2, a3⟩ := (HB0.out.grows hgS).four
      obtain ⟨f0, f1, f2, f3⟩ := (HB0.out.grows hgS).four'
      have hl0 := (HB0.out.grows hgS).lt
      go_simp
      skip
      refine hK.out _ _ ?_ ?_
      · ((try dsimp only); exact (by repeat' (first | (with_reducible exact HG1.out.trans hgS) | (with_reducible exact HG1.out.trans (hgS.trans hgc)) | (with_reducible refine Grows.setCell ?_ (Nat.le_refl _) _) | (with_reducible refine Grows.alloc ?_ _) | (with_reducible refine Grows.drew ?_) | (with_reducible refine Grows.ext ?_ _ _))))
      clear hK K hHeld
      intro hHeld
      try simp only [Act.put, List.getElem_toArray, List.getElem_cons_succ, List.getElem_cons_zero, List.setIfInBounds_toArray, List.set_cons_zero, List.set_cons_succ]
      refine anyB_takeT (i := 21) (v := ?v121_21) rfl (by kernel_rfl) (by kernel_rfl) (by kernel_rfl) (by kernel_rfl) (fun _ _ _ h => h) (Or.inl ⟨by kernel_rfl, ?y121_21⟩) hHeld (outB_no (by kernel_rfl)) ?r121_21
      case y121_21 => ((intro w hTw; obtain ⟨q1, q2, ⟨q3, q4, q5, q6⟩, l1, l2, l3, q7, l7⟩ := HF.out w hTw; clear hTw; go_simp); (try go_ints); (try with_reducible rfl))
      try simp only [Act.put, List.getElem_toArray, List.getElem_cons_succ, List.getElem_cons_zero, List.setIfInBounds_toArray, List.set_cons_zero, List.set_cons_succ]
      refine anyB_over (i := 22) (by kernel_rfl) rfl (by kernel_rfl) (fun K hK => ?_)
      simp only [List.getElem_toArray, List.getElem_cons_succ, List.getElem_cons_zero]
      go_simp
      skip
      refine hK.out _ _ ?_ ?_
      · ((try dsimp only); exact (by repeat' (first | (with_reducible exact HG1.out.trans hgS) | (with_reducible exact HG1.out.trans (hgS.trans hgc)) | (with_reducible refine Grows.setCell ?_ (Nat.le_refl _) _) | (with_reducible refine Grows.alloc ?_ _) | (with_reducible refine Grows.drew ?_) | (with_reducible refine Grows.ext ?_ _ _))))
      clear hK K hHeld
      intro hHeld
      try simp only [Act.put, List.getElem_toArray, List.getElem_cons_succ, List.getElem_cons_zero, List.setIfInBounds_toArray, List.set_cons_zero, List.set_cons_succ]
      refine anyB_done (by kernel_rfl) ?_ _
      try clear hHeld
      refine abs_exit (fun W' => Grows W W' ∧ Blk W' W.heap.size 25 #[.int .i64 k, .int .i64 p, .slice a7 (withL ks (i + 1) 0 [leafL fresh]).length c7, .slice a8 (withL ws (i + 1) 0 [y]).length c8] ∧ Blk W' (W.heap.size + 1) 25 #[.int .i64 0, .int .i64 0, .slice none 0 0, .slice none 0 0] ∧ LayAt (But W.heap.size S) W' (.mk k p (withL ks (i + 1) 0 [leafL fresh]) (withL ws (i + 1) 0 [y])) (.slice a7 (withL ks (i + 1) 0 [leafL fresh]).length c7) (.slice a8 (withL ws (i + 1) 0 [y]).length c8)) ⟨((HG1.out.trans hgS).setCell (Nat.le_refl _) _).setCell (Nat.le_refl _) _, ((HB0.out.grows hgS).set 2 _).set 3 _, ((HB1.out.grows hgS).other (by omega)).other (by omega), (LayAt_mk.2 ⟨HV8.out, HV7.out⟩).same (but_set0.trans but_set0)⟩ ?_
      rintro W9 ⟨hg9, hb9, hb10, hl9⟩
      obtain ⟨a0, a1, a2, a3⟩ := hb9.four
      obtain ⟨b0, b1, b2, b3⟩ := hb10.four
      obtain ⟨d0, d1, d2, d3⟩ := hb10.four'
      have hl0 := hb9.lt
      have hl1 := hb10.lt
      have HL9 := Lib.hid hl9
      have HB9 := Lib.hid hb10
      have HG9 := Lib.hid hg9
      clear hb9 hb10 hl9 hg9
      go_wp2_with fail
      refine ret_cell_tmp (t := 25) (n := W.heap.size + 1) (cs := #[.int .i64 k, .int .i64 p, .slice a7 (withL ks (i + 1) 0 [leafL fresh]).length c7, .slice a8 (withL ws (i + 1) 0 [y]).length c8]) rfl rfl rfl ?_ Try.underlying25 rfl (by kernel_rfl) rfl ?_
      · exact HB9.out.set4
      · rw [E2.out]
        exact ⟨_, _, rfl, (HL9.out.same (but_set4 _ _ _ _)).unbut, HG9.out.set4 (by omega) _ _ _ _⟩
  · have E2 := Lib.hid (splitE_other (k := k) (p := p) (fresh := fresh) (pane := pane) (ks := ks) (ws := ws) (i := i) hkk)
    have HKW := Lib.hid fun W' (g : Grows W1 W') vf (hvf : KidsAt (But W.heap.size S) W' vf [.mk kind 0 [leafL pane, leafL fresh] [1, 1]]) => with_kidsJ (S := But W.heap.size S) ks [.mk kind 0 [leafL pane, leafL fresh] [1, 1]] i 1 i 1 rfl rfl (.slice a ks.length cap) vf W' (but_fresh HS.out (by have := g.size; omega)) hne (by omega) (by omega) (by simp) (HH.out.kids.grows (HG1.out.trans g)) hvf
    go_upto_region 4 with (go_at_call 65; (go_must (with_reducible refine (HKW.out _ (by repeat' (first | (with_reducible exact Grows.refl _) | (with_reducible refine Grows.alloc ?_ _) | (with_reducible refine Grows.drew ?_) | (with_reducible refine Grows.ext ?_ _ _))) _ (kids_mk rfl (but_fresh (m := W.heap.size + 2) HS.out (Nat.le_refl _) _ (by omega)) (HPR.out.grows HG1.out))).mono ?_)); rintro e w7 ⟨v7, rfl, hv7, hgc⟩; obtain ⟨a7, c7, rfl, -⟩ := hv7.shape rfl; have hgS : Grows W1 w7 := Grows.trans (by repeat' (first | (with_reducible exact Grows.refl _) | (with_reducible refine Grows.alloc ?_ _) | (with_reducible refine Grows.drew ?_) | (with_reducible refine Grows.ext ?_ _ _))) hgc; obtain ⟨a0, a1, a2, a3⟩ := (HB0.out.grows hgS).four; obtain ⟨f0, f1, f2, f3⟩ := (HB0.out.grows hgS).four'; have hl0 := (HB0.out.grows hgS).lt)
    refine abs_worldM (fun W' => Grows W W' ∧ Blk W' W.heap.size 25 #[.int .i64 k, .int .i64 p, .slice a7 (withL ks i 1 [.mk kind 0 [leafL pane, leafL fresh] [1, 1]]).length c7, .slice (some ⟨wb, woff, none⟩) ks.length wc] ∧ Blk W' (W.heap.size + 1) 25 #[.int .i64 0, .int .i64 0, .slice none 0 0, .slice none 0 0] ∧ LayAt (But W.heap.size S) W' (.mk k p (withL ks i 1 [.mk kind 0 [leafL pane, leafL fresh] [1, 1]]) ws) (.slice a7 (withL ks i 1 [.mk kind 0 [leafL pane, leafL fresh] [1, 1]]).length c7) (.slice (some ⟨wb, woff, none⟩) ks.length wc)) ⟨(HG1.out.trans hgS).setCell (Nat.le_refl _) _, (HB0.out.grows hgS).set 2 _, (HB1.out.grows hgS).other (by omega), (LayAt_mk.2 ⟨HH.out.ints.grows (HG1.out.trans hgS), hv7⟩).same but_set0⟩ ?_
    rintro W9 ⟨hg9, hb9, hb10, hl9⟩
    clear hv7 hgc hgS
    obtain ⟨a0, a1, a2, a3⟩ := hb9.four
    obtain ⟨b0, b1, b2, b3⟩ := hb10.four
    obtain ⟨d0, d1, d2, d3⟩ := hb10.four'
    have hl0 := hb9.lt
    have hl1 := hb10.lt
    have HL9 := Lib.hid hl9
    have HB9 := Lib.hid hb10
    have HG9 := Lib.hid hg9
    clear hb9 hb10 hl9 hg9
    go_wp2_with fail
    refine ret_cell_tmp (t := 25) (n := W.heap.size + 1) (cs := #[.int .i64 k, .int .i64 p, .slice a7 (withL ks i 1 [.mk kind 0 [leafL pane, leafL fresh] [1, 1]]).length c7, .slice (some ⟨wb, woff, none⟩) ks.length wc]) rfl rfl rfl ?_ Try.underlying25 rfl (by kernel_rfl) rfl ?_
    · exact HB9.out.set4
    · rw [E2.out]
      exact ⟨_, _, rfl, (HL9.out.same (but_set4 _ _ _ _)).unbut, HG9.out.set4 (by omega) _ _ _ _⟩
end Go.Proofs.Ytbobpgegkmcapaa

namespace Go.Proofs.Ytbobpgegkmcapaa
open Go.RowKit

theorem max2_run (a b : Int) (w : World) : (Builtin.max_ #[3, 3] 3 #[.int .i64 a, .int .i64 b]).run Try.prog w = .ok (.int .i64 (max a b)) w := by
  simp only [max_eq_if]
  simp [go_sem, Builtin.max_, Builtin.max2]
theorem min2_run (a b : Int) (w : World) : (Builtin.min_ #[3, 3] 3 #[.int .i64 a, .int .i64 b]).run Try.prog w = .ok (.int .i64 (min a b)) w := by
  have e : min a b = if b < a then b else a := by split <;> omega
  rw [e]
  simp [go_sem, Builtin.min_, Builtin.min2]
set_option maxRecDepth 100000 in
set_option maxHeartbeats 4000000 in
theorem edit_resize {S0 : Nat → Prop} {w : World} {p1 p2 : Nat} {kind delta : Int} (hC : Blk w p1 3 #[.int .i64 kind]) (hD : Blk w p2 3 #[.int .i64 delta]) :
    EdAt58 (.pointer (some ⟨p1, 0, none⟩)) (.pointer (some ⟨p2, 0, none⟩)) S0 w (resizeE kind delta) := by
  intro S x i vk vw W g h1 hS hok hn hi h
  obtain ⟨k, p, ks, ws⟩ := x
  obtain ⟨hv, hkok⟩ := okTree_iff.1 hok
  dsimp only [Lay.kids] at hi hkok
  have hk1 : ¬ k = 1 := by
    rintro rfl
    have hz : ks = [] := (validN_leaf hv rfl).2.2.1
    rw [hz] at hi
    simp at hi
  obtain ⟨-, -, -, hwl, -, hwb1⟩ := validN_split hv hk1
  have hks : ks.length ≤ 1000 := by
    rw [panesL_mk, if_neg hk1] at hn
    have := len_kids (ks := ks) hkok
    omega
  dsimp only [Lay.ws, Lay.kids] at hwl hwb1
  obtain ⟨a, cap, G, rfl, hcap, hmx, hin⟩ := h.kids.open_ rfl
  obtain ⟨wa, wc, rfl, hwc, hwm, hiw⟩ := h.ints.open_ (show (Lay.mk k p ks ws).ws.length = ks.length from hwl)
  dsimp only [Lay.kids, Lay.ws, Lay.kind, Lay.pane] at hcap hmx hin hiw h ⊢
  obtain ⟨wb, woff, y, rfl, hwb, -, hy, hym, y0⟩ := hiw.at_ (i := i) (by rw [hwl]; exact hi)
  have hyr := hwb1 y hym
  have HY := Lib.hid hy
  have HWL := Lib.hid hwl
  have HF := Lib.hid fun W' (g' : Grows W W') => (⟨(hC.grows (g.trans g')).one.1, (hD.grows (g.trans g')).one.1, (hC.grows (g.trans g')).lt, (hD.grows (g.trans g')).lt, (g'.cellOf hwb).trans y0, Nat.lt_of_lt_of_le hwb g'.size⟩ : _ ∧ _ ∧ _ ∧ _ ∧ _ ∧ _)
  have HH := Lib.hid h.but
  have HS := Lib.hid hS
  have hwne : ws ≠ [] := by
    rintro rfl
    simp at hwl
    omega
  clear h1 hS hok hn h hv hkok hin hiw hwb y0 hC hD hy hk1 hwl hym hwb1
  go_enter Try.func58, Try.ntmps58
  go_upto_region 1 with fail
  refine abs_worldM (fun W' => Grows W W' ∧ Blk W' W.heap.size 25 #[.int .i64 k, .int .i64 p, .slice a ks.length cap, .slice (some ⟨wb, woff, none⟩) ks.length wc] ∧ Blk W' (W.heap.size + 1) 25 #[.int .i64 0, .int .i64 0, .slice none 0 0, .slice none 0 0]) (boxes2 _ _ _) ?_
  rintro W1 ⟨hg1, hb0, hb1⟩
  obtain ⟨a0, a1, a2, a3⟩ := hb0.four
  obtain ⟨f0, f1, f2, f3⟩ := hb0.four'
  obtain ⟨b0, b1, b2, b3⟩ := hb1.four
  obtain ⟨d0, d1, d2, d3⟩ := hb1.four'
  have hl0 := hb0.lt
  have hl1 := hb1.lt
  have HB0 := Lib.hid hb0
  have HB1 := Lib.hid hb1
  have HG1 := Lib.hid hg1
  have hs1 := hg1.size
  obtain ⟨q1, q2, l1, l2, q7, l7⟩ := HF.out _ hg1
  clear hb0 hb1 hg1
  by_cases hkk : k = kind
  · subst hkk
    have E2 := Lib.hid (resizeE_same (k := k) (p := p) (delta := delta) (ks := ks) HY.out)
    obtain ⟨M1, hM1⟩ : ∃ z, max delta (-1000) = z := ⟨_, rfl⟩
    have r1 := max2_run delta (-1000)
    rw [hM1] at E2 r1
    obtain ⟨M2, hM2⟩ : ∃ z, min M1 1000 = z := ⟨_, rfl⟩
    have r2 := min2_run M1 1000
    rw [hM2] at E2 r2
    have hM2b : -1000 ≤ M2 ∧ M2 ≤ 1000 := by omega
    obtain ⟨M3, hM3⟩ : ∃ z, max (y + M2) 1 = z := ⟨_, rfl⟩
    have r3 := max2_run (y + M2) 1
    rw [hM3] at E2 r3
    obtain ⟨M4, hM4⟩ : ∃ z, min M3 1000 = z := ⟨_, rfl⟩
    have r4 := min2_run M3 1000
    rw [hM4] at E2 r4
    clear hM1 hM2 hM3 hM4
    have HIW := Lib.hid fun W' (g : Grows W1 W') vf (hvf : IntsAt (But W.heap.size S) W' vf [M4]) => with_intsJ (S := But W.heap.size S) ws [M4] i 1 i 1 rfl rfl (.slice (some ⟨wb, woff, none⟩) ks.length wc) vf W' (but_fresh HS.out (by have := g.size; omega)) hwne (by rw [HWL.out]; omega) (by rw [HWL.out]; omega) (by simp) (HH.out.ints.grows (HG1.out.trans g)) hvf
    go_upto_region 3 with fail
    refine wp_region_grow (by kernel_rfl) (by kernel_rfl) ?_
    repeat (first | go_big_quiet_step ((fail)) | quiet_step ((fail)))
    refine wpQuiet_nil ?_
    rintro _ ⟨g59, rfl⟩
    refine abs_exit (fun W' => Grows W1 W') (by repeat' (first | (with_reducible exact Grows.refl _) | (with_reducible refine Grows.alloc ?_ _) | (with_reducible refine Grows.drew ?_) | (with_reducible refine Grows.ext ?_ _ _))) ?_
    rintro W2 hgS
    have hsS := hgS.size
    obtain ⟨a0, a1, a2, a3⟩ := (HB0.out.grows hgS).four
    have hl0 := (HB0.out.grows hgS).lt
    go_upto_region 5 with (go_at_call 59; (go_must (with_reducible refine (HIW.out _ (hgS.trans (by repeat' (first | (with_reducible exact Grows.refl _) | (with_reducible refine Grows.alloc ?_ _) | (with_reducible refine Grows.drew ?_) | (with_reducible refine Grows.ext ?_ _ _)))) _ (ints_one rfl (but_fresh (m := W.heap.size + 2) HS.out (Nat.le_refl _) _ (by omega)))).mono ?_)); rintro e w8 ⟨v8, rfl, hv8, hgc⟩; obtain ⟨a8, c8, rfl, -⟩ := hv8.shape rfl; have hgT : Grows W1 w8 := (hgS.trans (by repeat' (first | (with_reducible exact Grows.refl _) | (with_reducible refine Grows.alloc ?_ _) | (with_reducible refine Grows.drew ?_) | (with_reducible refine Grows.ext ?_ _ _)))).trans hgc; obtain ⟨a0, a1, a2, a3⟩ := (HB0.out.grows hgT).four; obtain ⟨f0, f1, f2, f3⟩ := (HB0.out.grows hgT).four'; have hl0 := (HB0.out.grows hgT).lt)
    refine abs_worldM (fun W' => Grows W W' ∧ Blk W' W.heap.size 25 #[.int .i64 k, .int .i64 p, .slice a ks.length cap, .slice a8 (withL ws i 1 [M4]).length c8] ∧ Blk W' (W.heap.size + 1) 25 #[.int .i64 0, .int .i64 0, .slice none 0 0, .slice none 0 0] ∧ LayAt (But W.heap.size S) W' (.mk k p ks (withL ws i 1 [M4])) (.slice a ks.length cap) (.slice a8 (withL ws i 1 [M4]).length c8)) ⟨(HG1.out.trans hgT).setCell (Nat.le_refl _) _, (HB0.out.grows hgT).set 3 _, (HB1.out.grows hgT).other (by omega), (LayAt_mk.2 ⟨hv8, HH.out.kids.grows (HG1.out.trans hgT)⟩).same but_set0⟩ ?_
    rintro W9 ⟨hg9, hb9, hb10, hl9⟩
    clear hv8 hgc hgS hgT
    obtain ⟨a0, a1, a2, a3⟩ := hb9.four
    obtain ⟨b0, b1, b2, b3⟩ := hb10.four
    obtain ⟨d0, d1, d2, d3⟩ := hb10.four'
    have hl0 := hb9.lt
    have hl1 := hb10.lt
    have HL9 := Lib.hid hl9
    have HB9 := Lib.hid hb10
    have HG9 := Lib.hid hg9
    clear hb9 hb10 hl9 hg9
    go_wp2_with fail
    refine ret_cell_tmp (t := 25) (n := W.heap.size + 1) (cs := #[.int .i64 k, .int .i64 p, .slice a ks.length cap, .slice a8 (withL ws i 1 [M4]).length c8]) rfl rfl rfl ?_ Try.underlying25 rfl (by kernel_rfl) rfl ?_
    · exact HB9.out.set4
    · rw [E2.out]
      exact ⟨_, _, rfl, (HL9.out.same (but_set4 _ _ _ _)).unbut, HG9.out.set4 (by omega) _ _ _ _⟩
  · have E2 := Lib.hid (resizeE_other (k := k) (p := p) (delta := delta) (ks := ks) (ws := ws) (i := i) hkk)
    go_wp2_with fail
    refine ret_cell_tmp (t := 25) (n := W.heap.size + 1) (cs := #[.int .i64 k, .int .i64 p, .slice a ks.length cap, .slice (some ⟨wb, woff, none⟩) ks.length wc]) rfl rfl rfl ?_ Try.underlying25 rfl (by kernel_rfl) rfl ?_
    · exact HB1.out.set4
    · rw [E2.out]
      exact ⟨_, _, rfl, ((HH.out.grows HG1.out).same (but_set4 _ _ _ _)).unbut, HG1.out.set4 (by omega) _ _ _ _⟩
end Go.Proofs.Ytbobpgegkmcapaa

namespace Go.Proofs.Ytbobpgegkmcapaa
open Go.RowKit

/-- The blocks of S but one. -/
def Exc (m : Nat) (S : Nat → Prop) (b : Nat) : Prop := S b ∧ b ≠ m
theorem exc_fresh {n m : Nat} {S : Nat → Prop} (h : ∀ b, n ≤ b → S b) {k : Nat} (hk : m < k) (hn : n ≤ k) : ∀ b, k ≤ b → Exc m S b := fun b hb => ⟨h b (by omega), by omega⟩
theorem LayAt.exc {m : Nat} {S : Nat → Prop} {w : World} {l : Lay} {vk vw : Value} (h : LayAt S w l vk vw) (hm : w.heap.size ≤ m) : LayAt (Exc m S) w l vk vw := h.mono fun _ hb hs => ⟨hs, by omega⟩
theorem LayAt.unexc {m : Nat} {S : Nat → Prop} {w : World} {l : Lay} {vk vw : Value} (h : LayAt (Exc m S) w l vk vw) : LayAt S w l vk vw := h.mono fun _ _ hs => hs.1
theorem exc_set4 {m : Nat} {S : Nat → Prop} {w : World} (a b c d : Value) : Same (Exc m S) w ((((w.setCell ⟨m, 0, none⟩ a).setCell ⟨m, 1, none⟩ b).setCell ⟨m, 2, none⟩ c).setCell ⟨m, 3, none⟩ d) := (((same_set fun h => h.2 rfl).trans (same_set fun h => h.2 rfl)).trans (same_set fun h => h.2 rfl)).trans (same_set fun h => h.2 rfl)
def zeroL : Lay := .mk 0 0 [] []
theorem zero_lay (S : Nat → Prop) (w : World) : LayAt S w zeroL (.slice none 0 0) (.slice none 0 0) := LayAt_mk.2 ⟨IntsAt.nil _ _ _ _, KidsAt.nil _ _ _ _⟩
/-- What an edit of the program returns. -/
def EdResI (S : Nat → Prop) (w w' : World) (q : Lay × Int) (e : Ending) : Prop := ∃ vk vw, e = .returned (.tuple #[.agg #[.int .i64 q.1.kind, .int .i64 q.1.pane, vk, vw], .int .i64 q.2]) ∧ LayAt S w' q.1 vk vw ∧ Grows w w'
theorem EdResI.zero {S : Nat → Prop} {w w' : World} (g : Grows w w') (n : Int) : EdResI S w w' (zeroL, n) (.returned (.tuple #[.agg #[.int .i64 0, .int .i64 0, .slice none 0 0, .slice none 0 0], .int .i64 n])) := ⟨_, _, rfl, zero_lay _ _, g⟩
def resizeF (L : Lay) (pane kind delta : Int) : Lay × Int :=
  if rightL L = false then (zeroL, 440) else if pane ∉ panesL L then (zeroL, 441) else if ¬ (kind = 2 ∨ kind = 3) then (zeroL, 2)
  else if (replL (resizeE kind delta) pane L).2 then ((replL (resizeE kind delta) pane L).1, 0) else (zeroL, 2)
set_option maxHeartbeats 2000000 in
theorem resize_no {S : Nat → Prop} (L : Lay) (pane kind delta : Int) (hr : rightL L = false) (vk vw : Value) (w : World) (h : LayAt S w L vk vw) : Calls Try.prog 30 #[.agg #[.int .i64 L.kind, .int .i64 L.pane, vk, vw], .int .i64 pane, .int .i64 kind, .int .i64 delta] w (fun e w' => EdResI S w w' (zeroL, 440) e) := by
  have hc := chk_no hr
  obtain ⟨ka, kc, e1, -⟩ := h.kids.shape rfl
  obtain ⟨wa, wc, e2, -⟩ := h.ints.shape rfl
  subst e1 e2
  have HC := Lib.hid fun W (g : Grows w W) => checked (h.grows g)
  rw [hc] at HC
  clear h hc hr
  generalize L.kids.length = kn at *
  generalize L.ws.length = wn at *
  go_enter Try.func30, Try.ntmps30
  go_upto_block 0 with fail
  refine abs_worldM (fun W' => Grows w W' ∧ Blk W' w.heap.size 25 #[.int .i64 L.kind, .int .i64 L.pane, .slice ka kn kc, .slice wa wn wc] ∧ Blk W' (w.heap.size + 1) 3 #[.int .i64 kind] ∧ Blk W' (w.heap.size + 1 + 1) 3 #[.int .i64 delta] ∧ Blk W' (w.heap.size + 1 + 1 + 1) 25 #[.int .i64 0, .int .i64 0, .slice none 0 0, .slice none 0 0]) (boxes4 _ _ _ _ _) ?_
  rintro W1 ⟨hg1, hb0, hb1, hb2, hb3⟩
  obtain ⟨a0, a1, a2, a3⟩ := hb0.four
  obtain ⟨k0, -⟩ := hb1.one
  obtain ⟨k1, -⟩ := hb2.one
  obtain ⟨b0, b1, b2, b3⟩ := hb3.four
  obtain ⟨d0, d1, d2, d3⟩ := hb3.four'
  have hl0 := hb0.lt
  have hl1 := hb1.lt
  have hl2 := hb2.lt
  have hl3 := hb3.lt
  have HB0 := Lib.hid hb0
  have HB1 := Lib.hid hb1
  have HB2 := Lib.hid hb2
  have HB3 := Lib.hid hb3
  have HG1 := Lib.hid hg1
  clear hb0 hb1 hb2 hb3 hg1
  go_wp2_with (first | (go_at_call 16; (with_reducible refine (HC.out _ (HG1.out.trans (by repeat' (first | (with_reducible exact hgW) | (with_reducible exact Grows.refl _) | (with_reducible refine Grows.alloc ?_ _) | (with_reducible refine Grows.drew ?_) | (with_reducible refine Grows.ext ?_ _ _))))).mono ?_); rintro e w1 ⟨rfl, hg2⟩; have hgW : Grows W1 w1 := Grows.trans (by repeat' (first | (with_reducible exact hgW) | (with_reducible exact Grows.refl _) | (with_reducible refine Grows.alloc ?_ _) | (with_reducible refine Grows.drew ?_) | (with_reducible refine Grows.ext ?_ _ _))) hg2; obtain ⟨a0, a1, a2, a3⟩ := (HB0.out.grows hgW).four; obtain ⟨k0, -⟩ := (HB1.out.grows hgW).one; obtain ⟨k1, -⟩ := (HB2.out.grows hgW).one; obtain ⟨b0, b1, b2, b3⟩ := (HB3.out.grows hgW).four; obtain ⟨d0, d1, d2, d3⟩ := (HB3.out.grows hgW).four'; have hl0 := (HB0.out.grows hgW).lt; have hl1 := (HB1.out.grows hgW).lt; have hl2 := (HB2.out.grows hgW).lt; have hl3 := (HB3.out.grows hgW).lt))
  refine ret_cell_tmp (t := 25) (n := w.heap.size + 1 + 1 + 1) (cs := #[.int .i64 0, .int .i64 0, .slice none 0 0, .slice none 0 0]) rfl rfl rfl ?_ Try.underlying25 rfl (by kernel_rfl) rfl ?_
  · exact (HB3.out.grows hgW).set4
  · exact EdResI.zero (Grows.set4 (HG1.out.trans hgW) (by omega) _ _ _ _) _
set_option maxHeartbeats 2000000 in
theorem resize_nopane {S : Nat → Prop} (L : Lay) (pane kind delta : Int) (hr : rightL L = true) (hp : pane ∉ panesL L) (vk vw : Value) (w : World) (h : LayAt S w L vk vw) : Calls Try.prog 30 #[.agg #[.int .i64 L.kind, .int .i64 L.pane, vk, vw], .int .i64 pane, .int .i64 kind, .int .i64 delta] w (fun e w' => EdResI S w w' (zeroL, 441) e) := by
  obtain ⟨hok, hn, -⟩ := right_ok hr
  have hc := chk_yes hr
  obtain ⟨ka, kc, e1, -⟩ := h.kids.shape rfl
  obtain ⟨wa, wc, e2, -⟩ := h.ints.shape rfl
  subst e1 e2
  have HC := Lib.hid fun W (g : Grows w W) => checked (h.grows g)
  rw [hc] at HC
  have HP := Lib.hid fun W (g : Grows w W) => panes_any L hok (by omega) _ _ W (h.grows g)
  clear h hok hn hc hr
  generalize L.kids.length = kn at *
  generalize L.ws.length = wn at *
  generalize panesL L = pl at *
  go_enter Try.func30, Try.ntmps30
  go_upto_block 0 with fail
  refine abs_worldM (fun W' => Grows w W' ∧ Blk W' w.heap.size 25 #[.int .i64 L.kind, .int .i64 L.pane, .slice ka kn kc, .slice wa wn wc] ∧ Blk W' (w.heap.size + 1) 3 #[.int .i64 kind] ∧ Blk W' (w.heap.size + 1 + 1) 3 #[.int .i64 delta] ∧ Blk W' (w.heap.size + 1 + 1 + 1) 25 #[.int .i64 0, .int .i64 0, .slice none 0 0, .slice none 0 0]) (boxes4 _ _ _ _ _) ?_
  rintro W1 ⟨hg1, hb0, hb1, hb2, hb3⟩
  obtain ⟨a0, a1, a2, a3⟩ := hb0.four
  obtain ⟨k0, -⟩ := hb1.one
  obtain ⟨k1, -⟩ := hb2.one
  obtain ⟨b0, b1, b2, b3⟩ := hb3.four
  obtain ⟨d0, d1, d2, d3⟩ := hb3.four'
  have hl0 := hb0.lt
  have hl1 := hb1.lt
  have hl2 := hb2.lt
  have hl3 := hb3.lt
  have HB0 := Lib.hid hb0
  have HB1 := Lib.hid hb1
  have HB2 := Lib.hid hb2
  have HB3 := Lib.hid hb3
  have HG1 := Lib.hid hg1
  clear hb0 hb1 hb2 hb3 hg1
  go_wp2_with (first | (go_at_call 16; (with_reducible refine (HC.out _ (HG1.out.trans (by repeat' (first | (with_reducible exact hgW) | (with_reducible exact Grows.refl _) | (with_reducible refine Grows.alloc ?_ _) | (with_reducible refine Grows.drew ?_) | (with_reducible refine Grows.ext ?_ _ _))))).mono ?_); rintro e w1 ⟨rfl, hg2⟩; have hgW : Grows W1 w1 := Grows.trans (by repeat' (first | (with_reducible exact hgW) | (with_reducible exact Grows.refl _) | (with_reducible refine Grows.alloc ?_ _) | (with_reducible refine Grows.drew ?_) | (with_reducible refine Grows.ext ?_ _ _))) hg2; obtain ⟨a0, a1, a2, a3⟩ := (HB0.out.grows hgW).four; obtain ⟨k0, -⟩ := (HB1.out.grows hgW).one; obtain ⟨k1, -⟩ := (HB2.out.grows hgW).one; obtain ⟨b0, b1, b2, b3⟩ := (HB3.out.grows hgW).four; obtain ⟨d0, d1, d2, d3⟩ := (HB3.out.grows hgW).four'; have hl0 := (HB0.out.grows hgW).lt; have hl1 := (HB1.out.grows hgW).lt; have hl2 := (HB2.out.grows hgW).lt; have hl3 := (HB3.out.grows hgW).lt) | (go_at_call 48; (with_reducible refine (HP.out _ (HG1.out.trans (by repeat' (first | (with_reducible exact hgW) | (with_reducible exact Grows.refl _) | (with_reducible refine Grows.alloc ?_ _) | (with_reducible refine Grows.drew ?_) | (with_reducible refine Grows.ext ?_ _ _))))).mono ?_); rintro e w2 ⟨v2, rfl, hv2, hg2⟩; have hgW : Grows W1 w2 := Grows.trans (by repeat' (first | (with_reducible exact hgW) | (with_reducible exact Grows.refl _) | (with_reducible refine Grows.alloc ?_ _) | (with_reducible refine Grows.drew ?_) | (with_reducible refine Grows.ext ?_ _ _))) hg2; obtain ⟨a0, a1, a2, a3⟩ := (HB0.out.grows hgW).four; obtain ⟨k0, -⟩ := (HB1.out.grows hgW).one; obtain ⟨k1, -⟩ := (HB2.out.grows hgW).one; obtain ⟨b0, b1, b2, b3⟩ := (HB3.out.grows hgW).four; obtain ⟨d0, d1, d2, d3⟩ := (HB3.out.grows hgW).four'; have hl0 := (HB0.out.grows hgW).lt; have hl1 := (HB1.out.grows hgW).lt; have hl2 := (HB2.out.grows hgW).lt; have hl3 := (HB3.out.grows hgW).lt) | (go_at_call 55; (with_reducible refine (contains_any _ _ _ _ (hv2.grows (by repeat' (first | (with_reducible exact Grows.refl _) | (with_reducible refine Grows.alloc ?_ _) | (with_reducible refine Grows.drew ?_) | (with_reducible refine Grows.ext ?_ _ _))))).mono ?_); rintro e w3 ⟨rfl, rfl⟩))
  refine ret_cell_tmp (t := 25) (n := w.heap.size + 1 + 1 + 1) (cs := #[.int .i64 0, .int .i64 0, .slice none 0 0, .slice none 0 0]) rfl rfl rfl ?_ Try.underlying25 rfl (by kernel_rfl) rfl ?_
  · exact (HB3.out.grows hgW).set4
  · exact EdResI.zero (Grows.set4 (HG1.out.trans hgW) (by omega) _ _ _ _) _
set_option maxHeartbeats 2000000 in
theorem resize_bad {S : Nat → Prop} (L : Lay) (pane kind delta : Int) (hr : rightL L = true) (hp : pane ∈ panesL L) (hk : ¬ (kind = 2 ∨ kind = 3)) (vk vw : Value) (w : World) (h : LayAt S w L vk vw) : Calls Try.prog 30 #[.agg #[.int .i64 L.kind, .int .i64 L.pane, vk, vw], .int .i64 pane, .int .i64 kind, .int .i64 delta] w (fun e w' => EdResI S w w' (zeroL, 2) e) := by
  obtain ⟨hok, hn, -⟩ := right_ok hr
  have hc := chk_yes hr
  obtain ⟨ka, kc, e1, -⟩ := h.kids.shape rfl
  obtain ⟨wa, wc, e2, -⟩ := h.ints.shape rfl
  subst e1 e2
  have HC := Lib.hid fun W (g : Grows w W) => checked (h.grows g)
  rw [hc] at HC
  have HP := Lib.hid fun W (g : Grows w W) => panes_any L hok (by omega) _ _ W (h.grows g)
  have HSP := Lib.hid fun W => (show Calls Try.prog 56 #[.int .i64 kind] W (Ret (.bool false) W) by
    have := isSplit_any kind W
    rwa [show (decide (kind = 2) || decide (kind = 3)) = false by simp; omega] at this)
  clear h hok hn hc hr hk
  generalize L.kids.length = kn at *
  generalize L.ws.length = wn at *
  generalize panesL L = pl at *
  go_enter Try.func30, Try.ntmps30
  go_upto_block 0 with fail
  refine abs_worldM (fun W' => Grows w W' ∧ Blk W' w.heap.size 25 #[.int .i64 L.kind, .int .i64 L.pane, .slice ka kn kc, .slice wa wn wc] ∧ Blk W' (w.heap.size + 1) 3 #[.int .i64 kind] ∧ Blk W' (w.heap.size + 1 + 1) 3 #[.int .i64 delta] ∧ Blk W' (w.heap.size + 1 + 1 + 1) 25 #[.int .i64 0, .int .i64 0, .slice none 0 0, .slice none 0 0]) (boxes4 _ _ _ _ _) ?_
  rintro W1 ⟨hg1, hb0, hb1, hb2, hb3⟩
  obtain ⟨a0, a1, a2, a3⟩ := hb0.four
  obtain ⟨k0, -⟩ := hb1.one
  obtain ⟨k1, -⟩ := hb2.one
  obtain ⟨b0, b1, b2, b3⟩ := hb3.four
  obtain ⟨d0, d1, d2, d3⟩ := hb3.four'
  have hl0 := hb0.lt
  have hl1 := hb1.lt
  have hl2 := hb2.lt
  have hl3 := hb3.lt
  have HB0 := Lib.hid hb0
  have HB1 := Lib.hid hb1
  have HB2 := Lib.hid hb2
  have HB3 := Lib.hid hb3
  have HG1 := Lib.hid hg1
  clear hb0 hb1 hb2 hb3 hg1
  go_wp2_with (first | (go_at_call 16; (with_reducible refine (HC.out _ (HG1.out.trans (by repeat' (first | (with_reducible exact hgW) | (with_reducible exact Grows.refl _) | (with_reducible refine Grows.alloc ?_ _) | (with_reducible refine Grows.drew ?_) | (with_reducible refine Grows.ext ?_ _ _))))).mono ?_); rintro e w1 ⟨rfl, hg2⟩; have hgW : Grows W1 w1 := Grows.trans (by repeat' (first | (with_reducible exact hgW) | (with_reducible exact Grows.refl _) | (with_reducible refine Grows.alloc ?_ _) | (with_reducible refine Grows.drew ?_) | (with_reducible refine Grows.ext ?_ _ _))) hg2; obtain ⟨a0, a1, a2, a3⟩ := (HB0.out.grows hgW).four; obtain ⟨k0, -⟩ := (HB1.out.grows hgW).one; obtain ⟨k1, -⟩ := (HB2.out.grows hgW).one; obtain ⟨b0, b1, b2, b3⟩ := (HB3.out.grows hgW).four; obtain ⟨d0, d1, d2, d3⟩ := (HB3.out.grows hgW).four'; have hl0 := (HB0.out.grows hgW).lt; have hl1 := (HB1.out.grows hgW).lt; have hl2 := (HB2.out.grows hgW).lt; have hl3 := (HB3.out.grows hgW).lt) | (go_at_call 48; (with_reducible refine (HP.out _ (HG1.out.trans (by repeat' (first | (with_reducible exact hgW) | (with_reducible exact Grows.refl _) | (with_reducible refine Grows.alloc ?_ _) | (with_reducible refine Grows.drew ?_) | (with_reducible refine Grows.ext ?_ _ _))))).mono ?_); rintro e w2 ⟨v2, rfl, hv2, hg2⟩; have hgW : Grows W1 w2 := Grows.trans (by repeat' (first | (with_reducible exact hgW) | (with_reducible exact Grows.refl _) | (with_reducible refine Grows.alloc ?_ _) | (with_reducible refine Grows.drew ?_) | (with_reducible refine Grows.ext ?_ _ _))) hg2; obtain ⟨a0, a1, a2, a3⟩ := (HB0.out.grows hgW).four; obtain ⟨k0, -⟩ := (HB1.out.grows hgW).one; obtain ⟨k1, -⟩ := (HB2.out.grows hgW).one; obtain ⟨b0, b1, b2, b3⟩ := (HB3.out.grows hgW).four; obtain ⟨d0, d1, d2, d3⟩ := (HB3.out.grows hgW).four'; have hl0 := (HB0.out.grows hgW).lt; have hl1 := (HB1.out.grows hgW).lt; have hl2 := (HB2.out.grows hgW).lt; have hl3 := (HB3.out.grows hgW).lt) | (go_at_call 55; (with_reducible refine (contains_any _ _ _ _ (hv2.grows (by repeat' (first | (with_reducible exact Grows.refl _) | (with_reducible refine Grows.alloc ?_ _) | (with_reducible refine Grows.drew ?_) | (with_reducible refine Grows.ext ?_ _ _))))).mono ?_); rintro e w3 ⟨rfl, rfl⟩) | (go_at_call 56; (with_reducible refine (HSP.out _).mono ?_); rintro e w4 ⟨rfl, hg2⟩; have hgW : Grows W1 w4 := Grows.trans (by repeat' (first | (with_reducible exact hgW) | (with_reducible exact Grows.refl _) | (with_reducible refine Grows.alloc ?_ _) | (with_reducible refine Grows.drew ?_) | (with_reducible refine Grows.ext ?_ _ _))) hg2; obtain ⟨a0, a1, a2, a3⟩ := (HB0.out.grows hgW).four; obtain ⟨k0, -⟩ := (HB1.out.grows hgW).one; obtain ⟨k1, -⟩ := (HB2.out.grows hgW).one; obtain ⟨b0, b1, b2, b3⟩ := (HB3.out.grows hgW).four; obtain ⟨d0, d1, d2, d3⟩ := (HB3.out.grows hgW).four'; have hl0 := (HB0.out.grows hgW).lt; have hl1 := (HB1.out.grows hgW).lt; have hl2 := (HB2.out.grows hgW).lt; have hl3 := (HB3.out.grows hgW).lt))
  refine ret_cell_tmp (t := 25) (n := w.heap.size + 1 + 1 + 1) (cs := #[.int .i64 0, .int .i64 0, .slice none 0 0, .slice none 0 0]) rfl rfl rfl ?_ Try.underlying25 rfl (by kernel_rfl) rfl ?_
  · exact (HB3.out.grows hgW).set4
  · exact EdResI.zero (Grows.set4 (HG1.out.trans hgW) (by omega) _ _ _ _) _
set_option maxHeartbeats 4000000 in
theorem resize_ok_true {S : Nat → Prop} (L : Lay) (pane kind delta : Int) (hr : rightL L = true) (hp : pane ∈ panesL L) (hk : kind = 2 ∨ kind = 3) (y : Lay) (hq : replL (resizeE kind delta) pane L = (y, true)) (vk vw : Value) (w : World) (hS : ∀ b, w.heap.size ≤ b → S b) (h : LayAt S w L vk vw) : Calls Try.prog 30 #[.agg #[.int .i64 L.kind, .int .i64 L.pane, vk, vw], .int .i64 pane, .int .i64 kind, .int .i64 delta] w (fun e w' => EdResI S w w' (y, 0) e) := by
  obtain ⟨hok, hn, -⟩ := right_ok hr
  have hc := chk_yes hr
  obtain ⟨ka, kc, e1, -⟩ := h.kids.shape rfl
  obtain ⟨wa, wc, e2, -⟩ := h.ints.shape rfl
  subst e1 e2
  have HC := Lib.hid fun W (g : Grows w W) => checked (h.grows g)
  rw [hc] at HC
  have HP := Lib.hid fun W (g : Grows w W) => panes_any L hok (by omega) _ _ W (h.grows g)
  have HSP := Lib.hid fun W => (show Calls Try.prog 56 #[.int .i64 kind] W (Ret (.bool true) W) by
    have := isSplit_any kind W
    rwa [show (decide (kind = 2) || decide (kind = 3)) = true by simpa using hk] at this)
  have HS := Lib.hid hS
  have HX := Lib.hid (h.exc (m := w.heap.size + 1 + 1 + 1) (by omega))
  have HRP := Lib.hid (replace_58 (resizeE kind delta) pane (.pointer (some ⟨w.heap.size + 1, 0, none⟩)) (.pointer (some ⟨w.heap.size + 1 + 1, 0, none⟩)) L hok (by omega))
  rw [hq] at HRP
  clear h hok hn hc hr hk hS hq
  generalize L.kids.length = kn at *
  generalize L.ws.length = wn at *
  generalize panesL L = pl at *
  go_enter Try.func30, Try.ntmps30
  go_upto_block 0 with fail
  refine abs_worldM (fun W' => Grows w W' ∧ Blk W' w.heap.size 25 #[.int .i64 L.kind, .int .i64 L.pane, .slice ka kn kc, .slice wa wn wc] ∧ Blk W' (w.heap.size + 1) 3 #[.int .i64 kind] ∧ Blk W' (w.heap.size + 1 + 1) 3 #[.int .i64 delta] ∧ Blk W' (w.heap.size + 1 + 1 + 1) 25 #[.int .i64 0, .int .i64 0, .slice none 0 0, .slice none 0 0]) (boxes4 _ _ _ _ _) ?_
  rintro W1 ⟨hg1, hb0, hb1, hb2, hb3⟩
  obtain ⟨a0, a1, a2, a3⟩ := hb0.four
  obtain ⟨k0, -⟩ := hb1.one
  obtain ⟨k1, -⟩ := hb2.one
  obtain ⟨b0, b1, b2, b3⟩ := hb3.four
  obtain ⟨d0, d1, d2, d3⟩ := hb3.four'
  have hl0 := hb0.lt
  have hl1 := hb1.lt
  have hl2 := hb2.lt
  have hl3 := hb3.lt
  have HB0 := Lib.hid hb0
  have HB1 := Lib.hid hb1
  have HB2 := Lib.hid hb2
  have HB3 := Lib.hid hb3
  have HG1 := Lib.hid hg1
  clear hb0 hb1 hb2 hb3 hg1
  have hs0 := HG1.out.size
  have HR := Lib.hid fun W (g : Grows W1 W) => HRP.out (Exc (w.heap.size + 1 + 1 + 1) S) _ _ W (exc_fresh HS.out (by have := g.size; omega) (by have := g.size; omega)) (HX.out.grows (HG1.out.trans g)) (edit_resize (HB1.out.grows g) (HB2.out.grows g))
  go_upto_region 8 with (first | (go_at_call 16; (with_reducible refine (HC.out _ (HG1.out.trans (by repeat' (first | (with_reducible exact hgW) | (with_reducible exact Grows.refl _) | (with_reducible refine Grows.alloc ?_ _) | (with_reducible refine Grows.drew ?_) | (with_reducible refine Grows.ext ?_ _ _))))).mono ?_); rintro e w1 ⟨rfl, hg2⟩; have hgW : Grows W1 w1 := Grows.trans (by repeat' (first | (with_reducible exact hgW) | (with_reducible exact Grows.refl _) | (with_reducible refine Grows.alloc ?_ _) | (with_reducible refine Grows.drew ?_) | (with_reducible refine Grows.ext ?_ _ _))) hg2; obtain ⟨a0, a1, a2, a3⟩ := (HB0.out.grows hgW).four; obtain ⟨k0, -⟩ := (HB1.out.grows hgW).one; obtain ⟨k1, -⟩ := (HB2.out.grows hgW).one; obtain ⟨b0, b1, b2, b3⟩ := (HB3.out.grows hgW).four; obtain ⟨d0, d1, d2, d3⟩ := (HB3.out.grows hgW).four'; have hl0 := (HB0.out.grows hgW).lt; have hl1 := (HB1.out.grows hgW).lt; have hl2 := (HB2.out.grows hgW).lt; have hl3 := (HB3.out.grows hgW).lt) | (go_at_call 48; (with_reducible refine (HP.out _ (HG1.out.trans (by repeat' (first | (with_reducible exact hgW) | (with_reducible exact Grows.refl _) | (with_reducible refine Grows.alloc ?_ _) | (with_reducible refine Grows.drew ?_) | (with_reducible refine Grows.ext ?_ _ _))))).mono ?_); rintro e w2 ⟨v2, rfl, hv2, hg2⟩; have hgW : Grows W1 w2 := Grows.trans (by repeat' (first | (with_reducible exact hgW) | (with_reducible exact Grows.refl _) | (with_reducible refine Grows.alloc ?_ _) | (with_reducible refine Grows.drew ?_) | (with_reducible refine Grows.ext ?_ _ _))) hg2; obtain ⟨a0, a1, a2, a3⟩ := (HB0.out.grows hgW).four; obtain ⟨k0, -⟩ := (HB1.out.grows hgW).one; obtain ⟨k1, -⟩ := (HB2.out.grows hgW).one; obtain ⟨b0, b1, b2, b3⟩ := (HB3.out.grows hgW).four; obtain ⟨d0, d1, d2, d3⟩ := (HB3.out.grows hgW).four'; have hl0 := (HB0.out.grows hgW).lt; have hl1 := (HB1.out.grows hgW).lt; have hl2 := (HB2.out.grows hgW).lt; have hl3 := (HB3.out.grows hgW).lt) | (go_at_call 55; (with_reducible refine (contains_any _ _ _ _ (hv2.grows (by repeat' (first | (with_reducible exact Grows.refl _) | (with_reducible refine Grows.alloc ?_ _) | (with_reducible refine Grows.drew ?_) | (with_reducible refine Grows.ext ?_ _ _))))).mono ?_); rintro e w3 ⟨rfl, rfl⟩) | (go_at_call 56; (with_reducible refine (HSP.out _).mono ?_); rintro e w4 ⟨rfl, hg2⟩; have hgW : Grows W1 w4 := Grows.trans (by repeat' (first | (with_reducible exact hgW) | (with_reducible exact Grows.refl _) | (with_reducible refine Grows.alloc ?_ _) | (with_reducible refine Grows.drew ?_) | (with_reducible refine Grows.ext ?_ _ _))) hg2; obtain ⟨a0, a1, a2, a3⟩ := (HB0.out.grows hgW).four; obtain ⟨k0, -⟩ := (HB1.out.grows hgW).one; obtain ⟨k1, -⟩ := (HB2.out.grows hgW).one; obtain ⟨b0, b1, b2, b3⟩ := (HB3.out.grows hgW).four; obtain ⟨d0, d1, d2, d3⟩ := (HB3.out.grows hgW).four'; have hl0 := (HB0.out.grows hgW).lt; have hl1 := (HB1.out.grows hgW).lt; have hl2 := (HB2.out.grows hgW).lt; have hl3 := (HB3.out.grows hgW).lt) | (go_at_call 57; (go_must (with_reducible refine (HR.out _ (by repeat' (first | (with_reducible exact hgW) | (with_reducible exact Grows.refl _) | (with_reducible refine Grows.alloc ?_ _) | (with_reducible refine Grows.drew ?_) | (with_reducible refine Grows.ext ?_ _ _)))).mono ?_)); rintro e w5 hE; obtain ⟨vk5, vw5, rfl, hl5, hg2⟩ := hE.open_; obtain ⟨ka5, kc5, rfl, -⟩ := hl5.kids.shape rfl; obtain ⟨wa5, wc5, rfl, -⟩ := hl5.ints.shape rfl; have hgW : Grows W1 w5 := Grows.trans (by repeat' (first | (with_reducible exact hgW) | (with_reducible exact Grows.refl _) | (with_reducible refine Grows.alloc ?_ _) | (with_reducible refine Grows.drew ?_) | (with_reducible refine Grows.ext ?_ _ _))) hg2))
  have HL5 := Lib.hid hl5
  have hgW5 := hgW
  refine abs_worldM (fun W' => Grows w5 W' ∧ Blk W' w5.heap.size 25 #[.int .i64 y.kind, .int .i64 y.pane, .slice ka5 y.kids.length kc5, .slice wa5 y.ws.length wc5]) ⟨(by repeat' (first | (with_reducible exact Grows.refl _) | (with_reducible refine Grows.alloc ?_ _) | (with_reducible refine Grows.drew ?_) | (with_reducible refine Grows.ext ?_ _ _))), Blk.new (by simp)⟩ ?_
  rintro W6 ⟨hg6, hb6⟩
  have hgW : Grows W1 W6 := hgW5.trans hg6
  obtain ⟨m0, m1, m2, m3⟩ := hb6.four
  have hlm := hb6.lt
  obtain ⟨a0, a1, a2, a3⟩ := (HB0.out.grows hgW).four
  obtain ⟨k0, -⟩ := (HB1.out.grows hgW).one
  obtain ⟨k1, -⟩ := (HB2.out.grows hgW).one
  obtain ⟨b0, b1, b2, b3⟩ := (HB3.out.grows hgW).four
  obtain ⟨d0, d1, d2, d3⟩ := (HB3.out.grows hgW).four'
  have hl0 := (HB0.out.grows hgW).lt
  have hl1 := (HB1.out.grows hgW).lt
  have hl2 := (HB2.out.grows hgW).lt
  have hl3 := (HB3.out.grows hgW).lt
  clear hl5
  generalize y.kids.length = yk at *
  generalize y.ws.length = yw at *
  go_wp2_with fail
  refine ret_cell_tmp (t := 25) (n := w.heap.size + 1 + 1 + 1) (cs := #[.int .i64 y.kind, .int .i64 y.pane, .slice ka5 yk kc5, .slice wa5 yw wc5]) rfl rfl rfl ?_ Try.underlying25 rfl (by kernel_rfl) rfl ?_
  · exact (HB3.out.grows hgW).set4
  · exact ⟨_, _, rfl, ((HL5.out.grows hg6).same (exc_set4 _ _ _ _)).unexc, (HG1.out.trans hgW).set4 (by omega) _ _ _ _⟩
set_option maxHeartbeats 4000000 in
theorem resize_ok_false {S : Nat → Prop} (L : Lay) (pane kind delta : Int) (hr : rightL L = true) (hp : pane ∈ panesL L) (hk : kind = 2 ∨ kind = 3) (y : Lay) (hq : replL (resizeE kind delta) pane L = (y, false)) (vk vw : Value) (w : World) (hS : ∀ b, w.heap.size ≤ b → S b) (h : LayAt S w L vk vw) : Calls Try.prog 30 #[.agg #[.int .i64 L.kind, .int .i64 L.pane, vk, vw], .int .i64 pane, .int .i64 kind, .int .i64 delta] w (fun e w' => EdResI S w w' (zeroL, 2) e) := by
  obtain ⟨hok, hn, -⟩ := right_ok hr
  have hc := chk_yes hr
  obtain ⟨ka, kc, e1, -⟩ := h.kids.shape rfl
  obtain ⟨wa, wc, e2, -⟩ := h.ints.shape rfl
  subst e1 e2
  have HC := Lib.hid fun W (g : Grows w W) => checked (h.grows g)
  rw [hc] at HC
  have HP := Lib.hid fun W (g : Grows w W) => panes_any L hok (by omega) _ _ W (h.grows g)
  have HSP := Lib.hid fun W => (show Calls Try.prog 56 #[.int .i64 kind] W (Ret (.bool true) W) by
    have := isSplit_any kind W
    rwa [show (decide (kind = 2) || decide (kind = 3)) = true by simpa using hk] at this)
  have HS := Lib.hid hS
  have HX := Lib.hid (h.exc (m := w.heap.size + 1 + 1 + 1) (by omega))
  have HRP := Lib.hid (replace_58 (resizeE kind delta) pane (.pointer (some ⟨w.heap.size + 1, 0, none⟩)) (.pointer (some ⟨w.heap.size + 1 + 1, 0, none⟩)) L hok (by omega))
  rw [hq] at HRP
  clear h hok hn hc hr hk hS hq
  generalize L.kids.length = kn at *
  generalize L.ws.length = wn at *
  generalize panesL L = pl at *
  go_enter Try.func30, Try.ntmps30
  go_upto_block 0 with fail
  refine abs_worldM (fun W' => Grows w W' ∧ Blk W' w.heap.size 25 #[.int .i64 L.kind, .int .i64 L.pane, .slice ka kn kc, .slice wa wn wc] ∧ Blk W' (w.heap.size + 1) 3 #[.int .i64 kind] ∧ Blk W' (w.heap.size + 1 + 1) 3 #[.int .i64 delta] ∧ Blk W' (w.heap.size + 1 + 1 + 1) 25 #[.int .i64 0, .int .i64 0, .slice none 0 0, .slice none 0 0]) (boxes4 _ _ _ _ _) ?_
  rintro W1 ⟨hg1, hb0, hb1, hb2, hb3⟩
  obtain ⟨a0, a1, a2, a3⟩ := hb0.four
  obtain ⟨k0, -⟩ := hb1.one
  obtain ⟨k1, -⟩ := hb2.one
  obtain ⟨b0, b1, b2, b3⟩ := hb3.four
  obtain ⟨d0, d1, d2, d3⟩ := hb3.four'
  have hl0 := hb0.lt
  have hl1 := hb1.lt
  have hl2 := hb2.lt
  have hl3 := hb3.lt
  have HB0 := Lib.hid hb0
  have HB1 := Lib.hid hb1
  have HB2 := Lib.hid hb2
  have HB3 := Lib.hid hb3
  have HG1 := Lib.hid hg1
  clear hb0 hb1 hb2 hb3 hg1
  have hs0 := HG1.out.size
  have HR := Lib.hid fun W (g : Grows W1 W) => HRP.out (Exc (w.heap.size + 1 + 1 + 1) S) _ _ W (exc_fresh HS.out (by have := g.size; omega) (by have := g.size; omega)) (HX.out.grows (HG1.out.trans g)) (edit_resize (HB1.out.grows g) (HB2.out.grows g))
  go_upto_region 8 with (first | (go_at_call 16; (with_reducible refine (HC.out _ (HG1.out.trans (by repeat' (first | (with_reducible exact hgW) | (with_reducible exact Grows.refl _) | (with_reducible refine Grows.alloc ?_ _) | (with_reducible refine Grows.drew ?_) | (with_reducible refine Grows.ext ?_ _ _))))).mono ?_); rintro e w1 ⟨rfl, hg2⟩; have hgW : Grows W1 w1 := Grows.trans (by repeat' (first | (with_reducible exact hgW) | (with_reducible exact Grows.refl _) | (with_reducible refine Grows.alloc ?_ _) | (with_reducible refine Grows.drew ?_) | (with_reducible refine Grows.ext ?_ _ _))) hg2; obtain ⟨a0, a1, a2, a3⟩ := (HB0.out.grows hgW).four; obtain ⟨k0, -⟩ := (HB1.out.grows hgW).one; obtain ⟨k1, -⟩ := (HB2.out.grows hgW).one; obtain ⟨b0, b1, b2, b3⟩ := (HB3.out.grows hgW).four; obtain ⟨d0, d1, d2, d3⟩ := (HB3.out.grows hgW).four'; have hl0 := (HB0.out.grows hgW).lt; have hl1 := (HB1.out.grows hgW).lt; have hl2 := (HB2.out.grows hgW).lt; have hl3 := (HB3.out.grows hgW).lt) | (go_at_call 48; (with_reducible refine (HP.out _ (HG1.out.trans (by repeat' (first | (with_reducible exact hgW) | (with_reducible exact Grows.refl _) | (with_reducible refine Grows.alloc ?_ _) | (with_reducible refine Grows.drew ?_) | (with_reducible refine Grows.ext ?_ _ _))))).mono ?_); rintro e w2 ⟨v2, rfl, hv2, hg2⟩; have hgW : Grows W1 w2 := Grows.trans (by repeat' (first | (with_reducible exact hgW) | (with_reducible exact Grows.refl _) | (with_reducible refine Grows.alloc ?_ _) | (with_reducible refine Grows.drew ?_) | (with_reducible refine Grows.ext ?_ _ _))) hg2; obtain ⟨a0, a1, a2, a3⟩ := (HB0.out.grows hgW).four; obtain ⟨k0, -⟩ := (HB1.out.grows hgW).one; obtain ⟨k1, -⟩ := (HB2.out.grows hgW).one; obtain ⟨b0, b1, b2, b3⟩ := (HB3.out.grows hgW).four; obtain ⟨d0, d1, d2, d3⟩ := (HB3.out.grows hgW).four'; have hl0 := (HB0.out.grows hgW).lt; have hl1 := (HB1.out.grows hgW).lt; have hl2 := (HB2.out.grows hgW).lt; have hl3 := (HB3.out.grows hgW).lt) | (go_at_call 55; (with_reducible refine (contains_any _ _ _ _ (hv2.grows (by repeat' (first | (with_reducible exact Grows.refl _) | (with_reducible refine Grows.alloc ?_ _) | (with_reducible refine Grows.drew ?_) | (with_reducible refine Grows.ext ?_ _ _))))).mono ?_); rintro e w3 ⟨rfl, rfl⟩) | (go_at_call 56; (with_reducible refine (HSP.out _).mono ?_); rintro e w4 ⟨rfl, hg2⟩; have hgW : Grows W1 w4 := Grows.trans (by repeat' (first | (with_reducible exact hgW) | (with_reducible exact Grows.refl _) | (with_reducible refine Grows.alloc ?_ _) | (with_reducible refine Grows.drew ?_) | (with_reducible refine Grows.ext ?_ _ _))) hg2; obtain ⟨a0, a1, a2, a3⟩ := (HB0.out.grows hgW).four; obtain ⟨k0, -⟩ := (HB1.out.grows hgW).one; obtain ⟨k1, -⟩ := (HB2.out.grows hgW).one; obtain ⟨b0, b1, b2, b3⟩ := (HB3.out.grows hgW).four; obtain ⟨d0, d1, d2, d3⟩ := (HB3.out.grows hgW).four'; have hl0 := (HB0.out.grows hgW).lt; have hl1 := (HB1.out.grows hgW).lt; have hl2 := (HB2.out.grows hgW).lt; have hl3 := (HB3.out.grows hgW).lt) | (go_at_call 57; (go_must (with_reducible refine (HR.out _ (by repeat' (first | (with_reducible exact hgW) | (with_reducible exact Grows.refl _) | (with_reducible refine Grows.alloc ?_ _) | (with_reducible refine Grows.drew ?_) | (with_reducible refine Grows.ext ?_ _ _)))).mono ?_)); rintro e w5 hE; obtain ⟨vk5, vw5, rfl, hl5, hg2⟩ := hE.open_; obtain ⟨ka5, kc5, rfl, -⟩ := hl5.kids.shape rfl; obtain ⟨wa5, wc5, rfl, -⟩ := hl5.ints.shape rfl; have hgW : Grows W1 w5 := Grows.trans (by repeat' (first | (with_reducible exact hgW) | (with_reducible exact Grows.refl _) | (with_reducible refine Grows.alloc ?_ _) | (with_reducible refine Grows.drew ?_) | (with_reducible refine Grows.ext ?_ _ _))) hg2))
  have HL5 := Lib.hid hl5
  have hgW5 := hgW
  refine abs_worldM (fun W' => Grows w5 W' ∧ Blk W' w5.heap.size 25 #[.int .i64 y.kind, .int .i64 y.pane, .slice ka5 y.kids.length kc5, .slice wa5 y.ws.length wc5]) ⟨(by repeat' (first | (with_reducible exact Grows.refl _) | (with_reducible refine Grows.alloc ?_ _) | (with_reducible refine Grows.drew ?_) | (with_reducible refine Grows.ext ?_ _ _))), Blk.new (by simp)⟩ ?_
  rintro W6 ⟨hg6, hb6⟩
  have hgW : Grows W1 W6 := hgW5.trans hg6
  obtain ⟨m0, m1, m2, m3⟩ := hb6.four
  have hlm := hb6.lt
  obtain ⟨a0, a1, a2, a3⟩ := (HB0.out.grows hgW).four
  obtain ⟨k0, -⟩ := (HB1.out.grows hgW).one
  obtain ⟨k1, -⟩ := (HB2.out.grows hgW).one
  obtain ⟨b0, b1, b2, b3⟩ := (HB3.out.grows hgW).four
  obtain ⟨d0, d1, d2, d3⟩ := (HB3.out.grows hgW).four'
  have hl0 := (HB0.out.grows hgW).lt
  have hl1 := (HB1.out.grows hgW).lt
  have hl2 := (HB2.out.grows hgW).lt
  have hl3 := (HB3.out.grows hgW).lt
  clear hl5
  generalize y.kids.length = yk at *
  generalize y.ws.length = yw at *
  go_wp2_with fail
  refine ret_cell_tmp (t := 25) (n := w.heap.size + 1 + 1 + 1) (cs := #[.int .i64 0, .int .i64 0, .slice none 0 0, .slice none 0 0]) rfl rfl rfl ?_ Try.underlying25 rfl (by kernel_rfl) rfl ?_
  · exact (HB3.out.grows hgW).set4
  · exact EdResI.zero (Grows.set4 (HG1.out.trans hgW) (by omega) _ _ _ _) _
theorem resizeF_any {S : Nat → Prop} (L : Lay) (pane kind delta : Int) (vk vw : Value) (w : World) (hS : ∀ b, w.heap.size ≤ b → S b) (h : LayAt S w L vk vw) : Calls Try.prog 30 #[.agg #[.int .i64 L.kind, .int .i64 L.pane, vk, vw], .int .i64 pane, .int .i64 kind, .int .i64 delta] w (fun e w' => EdResI S w w' (resizeF L pane kind delta) e) := by
  unfold resizeF
  by_cases hr : rightL L = false
  · rw [if_pos hr]
    exact resize_no L pane kind delta hr vk vw w h
  · rw [if_neg hr]
    have hr' : rightL L = true := by simpa using hr
    by_cases hp : pane ∉ panesL L
    · rw [if_pos hp]
      exact resize_nopane L pane kind delta hr' hp vk vw w h
    · rw [if_neg hp]
      have hp' : pane ∈ panesL L := Decidable.not_not.1 hp
      by_cases hk : ¬ (kind = 2 ∨ kind = 3)
      · rw [if_pos hk]
        exact resize_bad L pane kind delta hr' hp' hk vk vw w h
      · rw [if_neg hk]
        obtain ⟨y, t, hq⟩ : ∃ y t, replL (resizeE kind delta) pane L = (y, t) := ⟨_, _, rfl⟩
        rw [hq]
        cases t with
        | true => exact resize_ok_true L pane kind delta hr' hp' (Decidable.not_not.1 hk) y hq vk vw w hS h
        | false => exact resize_ok_false L pane kind delta hr' hp' (Decidable.not_not.1 hk) y hq vk vw w hS h
end Go.Proofs.Ytbobpgegkmcapaa

