/-
  Walks: leaves, Panes, Right of the reference. Walks: Right of the reference. Walks: Min of both, Panes of the program. Walks: slices.Equal of numbers; equal and EqualFunc of layouts. Walks: equal and Same of the program. Walks: Same of the reference.
-/
import Derived.Test.YtbobpgegkmcapaaRows
import Derived.Test.YtbobpgegkmcapaaE1
import Derived.Test.YtbobpgegkmcapaaE3
import Derived.Test.YtbobpgegkmcapaaE4
import Derived.WalkKit
import Derived.WalkSpells
import Derived.WalkLawsBesides
import Derived.Handy
import Derived.Laws.Rows
import Derived.Great.BuildSlice
import Derived.Deep.Heap
import Derived.IntWalk
import Derived.Lib.Hide
import Derived.Outline
import Derived.Deep.Light
import Derived.Deep.LoopGhost
import Derived.BigGuardPart
import Derived.BigQuiet
import Derived.Deep.QuietTactic
import Derived.Deep.RegionHeld3
import Derived.Deep.DeepCutAuto
import Derived.Deep.CutBlock
import Derived.OwnWalk
import Derived.Maps.AppendAt
import Derived.Test.YtbobpgegkmcapaaE2
import Derived.Laws.EntriesVeiled
namespace Go.Proofs.Ytbobpgegkmcapaa
open Go.RowKit

theorem leaves_any {S : Nat → Prop} (L : Lay) : ∀ (vk vw : Value) (w : World) (most : Int), -1000 ≤ most → most ≤ 1000 → LayAt S w L vk vw → Calls Try.prog 41 #[.agg #[.int .i64 L.kind, .int .i64 L.pane, vk, vw], .int .i64 most] w (Ret (.int .i64 (leafE L most)) w) := by
  induction L using Lay.ind with | h k p ks ws ih => ?_
  intro vk vw w most h0 h1 h
  by_cases hm : most < 1
  · have e : leafE (.mk k p ks ws) most = -1 := leafE_bad fun h' => by
      have := panes_pos _ h'.1
      have := h'.2
      unfold nlI at this
      omega
    rw [e]
    obtain ⟨ka, kc, e1, -⟩ := h.kids.shape rfl
    obtain ⟨wa, wc, e2, -⟩ := h.ints.shape rfl
    subst e1 e2
    exact lv_small k p ka wa _ kc _ wc most hm w
  · by_cases hk : k = 1
    · subst hk
      obtain ⟨ka, kc, e1, -⟩ := h.kids.shape rfl
      obtain ⟨wa, wc, e2, -⟩ := h.ints.shape rfl
      subst e1 e2
      by_cases hp : 0 ≤ p ∧ p ≤ 999 ∧ ks.length = 0 ∧ ws.length = 0
      · have e : leafE (.mk 1 p ks ws) most = 1 := by
          have hn : nlI (.mk 1 p ks ws) = 1 := by rw [nlI, panesL_mk]; rfl
          rw [leafE, if_pos, hn]
          refine ⟨okTree_iff.2 ⟨?_, fun x hx => ?_⟩, by omega⟩
          · rw [validN_mk, if_pos rfl]
            obtain ⟨g1, g2, g3, g4⟩ := hp
            rw [List.length_eq_zero_iff.1 g3, List.length_eq_zero_iff.1 g4]
            simp [g1, g2]
          · have hx' : x ∈ ks := hx
            rw [List.length_eq_zero_iff.1 hp.2.2.1] at hx'
            cases hx'
        rw [e]
        exact lv_leaf p ka wa _ kc _ wc most (by omega) hp w
      · have e : leafE (.mk 1 p ks ws) most = -1 := leafE_bad fun h' => hp (by
          obtain ⟨g1, g2, g3, g4⟩ := validN_leaf (okTree_iff.1 h'.1).1 rfl
          have g3' : ks = [] := g3
          have g4' : ws = [] := g4
          exact ⟨g1, g2, by rw [g3']; rfl, by rw [g4']; rfl⟩)
        rw [e]
        exact lv_leaf_bad p ka wa _ kc _ wc most (by omega) hp w
    · by_cases hh : (k = 2 ∨ k = 3) ∧ p = 0 ∧ 2 ≤ ks.length ∧ ws.length = ks.length
      · obtain ⟨g1, rfl, g2, g3⟩ := hh
        exact lv_split k ks ws vk vw most (by omega) h1 w g1 g2 g3 h.kids h.ints ih
      · have e : leafE (.mk k p ks ws) most = -1 := leafE_bad fun h' => hh (by
          obtain ⟨g1, g2, g3, g4, -⟩ := validN_split (okTree_iff.1 h'.1).1 hk
          exact ⟨g1, g2, g3, g4⟩)
        rw [e]
        obtain ⟨ka, kc, e1, -⟩ := h.kids.shape rfl
        obtain ⟨wa, wc, e2, -⟩ := h.ints.shape rfl
        subst e1 e2
        exact lv_head k p ka wa _ kc _ wc most (by omega) w hk hh
theorem flat_len {ks : List Lay} (m : Nat) : (((ks.take m).map panesL).flatten).length ≤ ((ks.map panesL).flatten).length := by
  have e : (ks.map panesL).flatten = ((ks.take m).map panesL).flatten ++ ((ks.drop m).map panesL).flatten := by
    rw [← List.flatten_append, ← List.map_append, List.take_append_drop]
  rw [e, List.length_append]
  omega
theorem rpanes_leaf (p : Int) (a wa : Option Addr) (kn cap wn wc : Nat) (w : World) : Calls Try.prog 22 #[.agg #[.int .i64 1, .int .i64 p, .slice a kn cap, .slice wa wn wc]] w (fun e w' => ∃ v, e = .returned v ∧ IntsAt (fun _ => True) w' v [p] ∧ Grows w w') := by
  go_enter Try.func22, Try.ntmps22
  go_wp2
  go_returns
  refine ⟨_, rfl, ⟨_, _, rfl, Nat.le_refl _, Nat.le_trans (show 1 ≤ 2 by decide) (by decide), fun _ => ⟨_, 0, rfl, by simp, trivial, fun i x hi => ?_⟩⟩, (by repeat' (first | (with_reducible exact Grows.refl _) | (with_reducible refine Grows.alloc ?_ _) | (with_reducible refine Grows.drew ?_) | (with_reducible refine Grows.ext ?_ _ _)))⟩
  match i, hi with
  | 0, hi =>
    obtain rfl : p = x := by simpa using hi
    exact (cell_of_row _ _ 0 _ _ (0, 0) (boxes2 w _ _).2.2).trans rfl
theorem app_len {base : Nat} {e : TypeId} {size : Nat} {w : World} {v : Value} {n : Nat} {xs : List Value} (h : DstAt base e size w v n xs) : ∃ a c, v = .slice a n c := by
  obtain ⟨-, a, c, rfl, -⟩ := h.cells
  exact ⟨a, c, rfl⟩
set_option maxRecDepth 100000 in
set_option maxHeartbeats 4000000 in
theorem rpanes_split {S : Nat → Prop} (k p : Int) (ks : List Lay) (ws : List Int) (vk vw : Value) (w : World) (hk : ¬ k = 1) (hn : ((ks.map panesL).flatten).length ≤ 1000) (hK : KidsAt S w vk ks) (hI : IntsAt S w vw ws)
    (ih : ∀ x ∈ ks, ∀ (vk vw : Value) (w : World), LayAt S w x vk vw → Calls Try.prog 22 #[.agg #[.int .i64 x.kind, .int .i64 x.pane, vk, vw]] w (fun e w' => ∃ v, e = .returned v ∧ IntsAt (fun _ => True) w' v (panesL x) ∧ Grows w w')) :
    Calls Try.prog 22 #[.agg #[.int .i64 k, .int .i64 p, vk, vw]] w (fun e w' => ∃ v, e = .returned v ∧ IntsAt (fun _ => True) w' v ((ks.map panesL).flatten) ∧ Grows w w') := by
  obtain ⟨i0, hi0, hz0, hz1, hz2⟩ := info_parts info3
  obtain ⟨a, cap, G, rfl, hcap, hmx, hin⟩ := hK.open_ rfl
  obtain ⟨wa, wc, rfl, -, -, -⟩ := hI.open_ rfl
  have ek : (k == 1) = false := by simpa using hk
  have Hin := Lib.hid hin
  have IH := Lib.hid ih
  clear hin hK hI ih hk
  generalize ws.length = wn at *
  go_enter Try.func22, Try.ntmps22
  go_upto_region 1 with fail
  refine abs_worldM (fun W => Grows w W ∧ Blk W w.heap.size 25 #[.int .i64 k, .int .i64 p, .slice a ks.length cap, .slice wa wn wc]) ?_ ?_
  · exact boxes1 _ _
  rintro W0 ⟨hg0, hb0⟩
  obtain ⟨c0, c1, c2, c3⟩ := hb0.four
  have hl0 := hb0.lt
  have HB0 := Lib.hid hb0
  have HG0 := Lib.hid hg0
  clear hb0 hg0
  go_wp2
  go_loopw [3, 4] (fun o i wr => ∃ m : Nat, ∃ wv : World, wv = wr ∧ m ≤ ks.length ∧ i = .int .i64 m ∧ DstAt W0.heap.size 3 1 wv o (((ks.take m).map panesL).flatten).length (intC (((ks.take m).map panesL).flatten)) ∧ Grows W0 wv) (fun _ i _ => ks.length - (intOf i).toNat)
  case atStart => exact ⟨0, _, rfl, Nat.zero_le _, rfl, DstAt.nil _ _ _ _, Grows.refl _⟩
  case round =>
    obtain ⟨m, wv, rfl, hm, rfl, ho, hg⟩ := hrel
    have HG := Lib.hid hg
    obtain ⟨c0, c1, c2, c3⟩ := (HB0.out.grows hg).four
    have hlv := (HB0.out.grows hg).lt
    have hsz := hg.size
    have hfl := flat_len (ks := ks) m
    by_cases hlt : m < ks.length
    · obtain ⟨b, off, x, ka, kn, kc, xa, xn, xc, rfl, hb, -, hx, hmem, -, -, e0, e1, e4, e3, hL⟩ := (Hin.out.grows (HG0.out.trans hg)).at_ hlt
      have hsn : ((ks.take (m + 1)).map panesL).flatten = ((ks.take m).map panesL).flatten ++ panesL x := by rw [take_snoc hx, List.map_append, List.flatten_append]; simp
      have hfl2 := flat_len (ks := ks) (m + 1)
      rw [hsn, List.length_append] at hfl2
      have HSN := Lib.hid hsn
      have HC := Lib.hid (IH.out x hmem _ _ wv hL)
      have HO := Lib.hid ho
      clear ho hg hx hmem hL hsn
      generalize ((ks.take m).map panesL).flatten = ps at *
      generalize panesL x = qs at *
      obtain ⟨np, hnp⟩ : ∃ n, ps.length = n := ⟨_, rfl⟩
      obtain ⟨nq, hnq⟩ : ∃ n, qs.length = n := ⟨_, rfl⟩
      rw [hnp] at HO hfl hfl2
      rw [hnq] at hfl2
      go_wp2_with (first | (go_at_call 22; (with_reducible refine HC.out.mono ?_); rintro e w2 ⟨v2, rfl, hv2, hg2⟩) | (at_builtin; refine wpList_app _ rfl (.tmp 18) (.tmp 24) 23 rfl W0.heap.size 3 i0 _ 1 8 Try.underlying23 hi0 hz0 hz1 hz2 rfl (by decide) np nq (intC ps) (intC qs) (HO.out.grows hg2) (by rw [← hnq]; exact hv2.cells) (intC_one _) (by unfold maxLen; omega) (by omega) (Nat.le_trans hsz hg2.size) ?_; intro v3 w3 row3 q1 q2 q3 _; have hgq : Grows W0 w3 := appended_grows (HG.out.trans hg2) q2 (fun k e => (q3 k e).1)))
      go_roundw
      case rel => exact ⟨m + 1, _, rfl, by omega, by go_num, by rw [HSN.out, List.length_append, hnp, hnq, ← intC_append]; exact q1, hgq⟩
      case measure => simp [intOf]; omega
    · have e : m = ks.length := by omega
      subst e
      rw [List.take_length] at ho
      have HO := Lib.hid ho
      clear ho hg
      go_wp2_with fail
      go_ret
      exact ⟨_, rfl, ints_of_cells rfl HO.out.cells (fun _ _ _ => trivial) (by omega), HG0.out.trans HG.out⟩
theorem rpanes_any {S : Nat → Prop} (L : Lay) (hn : (panesL L).length ≤ 1000) : ∀ (vk vw : Value) (w : World), LayAt S w L vk vw → Calls Try.prog 22 #[.agg #[.int .i64 L.kind, .int .i64 L.pane, vk, vw]] w (fun e w' => ∃ v, e = .returned v ∧ IntsAt (fun _ => True) w' v (panesL L) ∧ Grows w w') := by
  revert hn
  induction L using Lay.ind with | h k p ks ws ih => ?_
  intro hn vk vw w h
  by_cases hk : k = 1
  · subst hk
    obtain ⟨ka, kc, e1, -⟩ := h.kids.shape rfl
    obtain ⟨wa, wc, e2, -⟩ := h.ints.shape rfl
    subst e1 e2
    rw [panesL_mk, if_pos rfl]
    exact rpanes_leaf p ka wa _ kc _ wc w
  · rw [panesL_mk, if_neg hk] at hn ⊢
    exact rpanes_split k p ks ws vk vw w hk hn h.kids h.ints fun x hx => ih x hx (by have := len_mem hx; omega)
end Go.Proofs.Ytbobpgegkmcapaa

namespace Go.Proofs.Ytbobpgegkmcapaa
open Go.RowKit

theorem IntsIn.take {S : Nat → Prop} {w : World} {a : Option Addr} {l : List Int} (h : IntsIn S w a l) (k : Nat) : IntsIn S w a (l.take k) := by
  intro hne
  obtain ⟨b, off, ha, hb, hs, hx⟩ := h (by rintro rfl; simp at hne)
  refine ⟨b, off, ha, hb, hs, fun i x hi => hx i x ?_⟩
  rw [List.getElem?_take] at hi
  split at hi
  · exact hi
  · cases hi
theorem nodup_snoc {l : List Int} {i : Nat} {x : Int} (hx : l[i]? = some x) : (l.take (i + 1)).Nodup ↔ (l.take i).Nodup ∧ x ∉ l.take i := by
  rw [take_snoc hx, List.nodup_append]
  constructor
  · rintro ⟨h1, -, h3⟩
    exact ⟨h1, fun hm => h3 _ hm _ (by simp) rfl⟩
  · rintro ⟨h1, h2⟩
    exact ⟨h1, by simp, fun a ha b hb e => h2 (by rw [List.mem_singleton] at hb; rw [← hb, ← e]; exact ha)⟩
theorem nodup_take {l : List Int} (h : l.Nodup) (i : Nat) : (l.take i).Nodup := h.sublist (List.take_sublist i l)
set_option maxRecDepth 100000 in
set_option maxHeartbeats 4000000 in
theorem right_any {S : Nat → Prop} (L : Lay) (vk vw : Value) (w : World) (h : LayAt S w L vk vw) : Calls Try.prog 11 #[.agg #[.int .i64 L.kind, .int .i64 L.pane, vk, vw]] w (Ret (.bool (rightL L)) w) := by
  obtain ⟨ka, kc, e1, -⟩ := h.kids.shape rfl
  obtain ⟨wa, wc, e2, -⟩ := h.ints.shape rfl
  subst e1 e2
  have HL := Lib.hid h
  have HV := Lib.hid fun W (g : Grows w W) => leaves_any L _ _ W 16 (by omega) (by omega) (h.grows g)
  clear h
  by_cases hc : okTree L = true ∧ nlI L ≤ 16
  · have e : leafE L 16 = nlI L := if_pos hc
    have hp := panes_pos L hc.1
    have hn : (panesL L).length ≤ 16 := by have := hc.2; unfold nlI at this; omega
    have hr : rightL L = decide (panesL L).Nodup := by
      rw [rightL, hc.1, decide_eq_true hn]
      rfl
    rw [hr]
    have HP := Lib.hid fun W (g : Grows w W) => rpanes_any L (by omega) _ _ W (HL.out.grows g)
    rw [e] at HV
    have g0 : decide (nlI L < 0) = false := by unfold nlI; rw [decide_eq_false_iff_not]; omega
    clear hc e hr
    generalize L.kids.length = kn at *
    generalize L.ws.length = wn at *
    generalize panesL L = ps at *
    obtain ⟨np, hnp⟩ : ∃ n, ps.length = n := ⟨_, rfl⟩
    go_enter Try.func11, Try.ntmps11
    go_upto_block 0 with (first | (go_at_call 41; (with_reducible refine (HV.out _ (by repeat' (first | (with_reducible exact Grows.refl _) | (with_reducible refine Grows.alloc ?_ _) | (with_reducible refine Grows.drew ?_) | (with_reducible refine Grows.ext ?_ _ _)))).mono ?_); rintro e w' ⟨rfl, h36, d36, rfl⟩) | (go_at_call 22; (with_reducible refine (HP.out _ (by repeat' (first | (with_reducible exact Grows.refl _) | (with_reducible refine Grows.alloc ?_ _) | (with_reducible refine Grows.drew ?_) | (with_reducible refine Grows.ext ?_ _ _)))).mono ?_); rintro e w2 ⟨v2, rfl, hv2, hg2⟩))
    obtain ⟨a, c, rfl, hcc, -, hin⟩ := hv2.open_ hnp
    refine abs_worldM (fun W => Grows w W ∧ IntsIn (fun _ => True) W a ps) ?_ ?_
    · exact ⟨(by repeat' (first | (with_reducible exact Grows.refl _) | (with_reducible refine Grows.trans ?_ hg2) | (with_reducible refine Grows.alloc ?_ _) | (with_reducible refine Grows.drew ?_) | (with_reducible refine Grows.ext ?_ _ _))), hin⟩
    rintro W0 ⟨hg0, hin0⟩
    have HG0 := Lib.hid hg0
    have Hin := Lib.hid hin0
    clear hg0 hin hin0 hg2 hv2
    go_wp2
    go_loopw [4] (fun i wr => ∃ m : Nat, ∃ wv : World, wv = wr ∧ m ≤ ps.length ∧ i = .int .i64 m ∧ (ps.take m).Nodup ∧ Grows W0 wv) (fun i _ => ps.length - (intOf i).toNat)
    case atStart => exact ⟨0, _, rfl, Nat.zero_le _, rfl, by simp, Grows.refl _⟩
    case round =>
      obtain ⟨m, wv, rfl, hm, rfl, hd, hg⟩ := hrel
      have HG := Lib.hid hg
      have HD := Lib.hid hd
      by_cases hlt : m < ps.length
      · have hini := Hin.out.grows hg
        obtain ⟨b, off, x, rfl, hb, -, hx, hmx, c0⟩ := hini.at_ hlt
        have HX := Lib.hid hx
        have HH := Lib.hid fun cc (hcc' : m ≤ cc) W (g : Grows wv W) => has_any (.slice (some ⟨b, off, none⟩) m cc) (ps.take m) x W (((hini.take m).grows g).shut (by rw [List.length_take]; omega) hcc' (by omega))
        have hcm : (m : Int) ≤ c := by omega
        have hcm2 : m ≤ c := by omega
        clear hd hg hini hx hmx
        by_cases hq : x ∈ ps.take m
        · have hr : decide ps.Nodup = false := by
            rw [decide_eq_false_iff_not]
            intro hnd
            exact ((nodup_snoc HX.out).1 (nodup_take hnd (m + 1))).2 hq
          have HR := Lib.hid hr
          have hdt : decide (x ∈ ps.take m) = true := decide_eq_true hq
          rw [hdt] at HH
          clear hr hq hdt
          go_upto_region 7 with fail
          refine wp_region_grow (by kernel_rfl) (by kernel_rfl) ?_
          repeat (first | go_big_quiet_step ((first | (rename_i xg; go_at_call 42; (with_reducible refine (HH.out _ hcm2 _ ((Grows.refl wv).ext _ _)).mono ?_); rintro _ _ ⟨rfl, rfl⟩; exact ⟨rfl, xg, rfl⟩))) | quiet_step ((first | (rename_i xg; go_at_call 42; (with_reducible refine (HH.out _ hcm2 _ ((Grows.refl wv).ext _ _)).mono ?_); rintro _ _ ⟨rfl, rfl⟩; exact ⟨rfl, xg, rfl⟩))))
          refine wpQuiet_nil ?_
          rintro _ ⟨g34, rfl⟩
          go_wp2
          go_ret
          exact ⟨ret_bool HR.out.symm, (HG0.out.trans HG.out).trans (by repeat' (first | (with_reducible exact Grows.refl _) | (with_reducible refine Grows.alloc ?_ _) | (with_reducible refine Grows.drew ?_) | (with_reducible refine Grows.ext ?_ _ _)))⟩
        · have hr : (ps.take (m + 1)).Nodup := (nodup_snoc HX.out).2 ⟨HD.out, hq⟩
          have HR := Lib.hid hr
          have hdt : decide (x ∈ ps.take m) = false := decide_eq_false hq
          rw [hdt] at HH
          clear hr hq hdt
          go_upto_region 7 with fail
          refine wp_region_grow (by kernel_rfl) (by kernel_rfl) ?_
          repeat (first | go_big_quiet_step ((first | (rename_i xg; go_at_call 42; (with_reducible refine (HH.out _ hcm2 _ ((Grows.refl wv).ext _ _)).mono ?_); rintro _ _ ⟨rfl, rfl⟩; exact ⟨rfl, xg, rfl⟩))) | quiet_step ((first | (rename_i xg; go_at_call 42; (with_reducible refine (HH.out _ hcm2 _ ((Grows.refl wv).ext _ _)).mono ?_); rintro _ _ ⟨rfl, rfl⟩; exact ⟨rfl, xg, rfl⟩))))
          refine wpQuiet_nil ?_
          rintro _ ⟨g35, rfl⟩
          go_wp2
          go_roundw
          case rel => exact ⟨m + 1, _, rfl, by omega, by go_num, HR.out, HG.out.trans (by repeat' (first | (with_reducible exact Grows.refl _) | (with_reducible refine Grows.alloc ?_ _) | (with_reducible refine Grows.drew ?_) | (with_reducible refine Grows.ext ?_ _ _)))⟩
          case measure => simp [intOf]; omega
      · have e : m = ps.length := by omega
        subst e
        rw [List.take_length] at hd
        have HR := Lib.hid (decide_eq_true hd)
        clear hd hg
        go_wp2_with fail
        go_ret
        exact ⟨ret_bool HR.out.symm, HG0.out.trans HG.out⟩
  · have e : leafE L 16 = -1 := leafE_bad hc
    have hr : rightL L = false := by
      rw [Bool.eq_false_iff]
      intro hr
      simp only [rightL, Bool.and_eq_true, decide_eq_true_eq] at hr
      exact hc ⟨hr.1.1, by unfold nlI; omega⟩
    rw [hr]
    rw [e] at HV
    clear hc e hr
    generalize L.kids.length = kn at *
    generalize L.ws.length = wn at *
    go_enter Try.func11, Try.ntmps11
    go_wp2_with (go_at_call 41; (with_reducible refine (HV.out _ (by repeat' (first | (with_reducible exact Grows.refl _) | (with_reducible refine Grows.alloc ?_ _) | (with_reducible refine Grows.drew ?_) | (with_reducible refine Grows.ext ?_ _ _)))).mono ?_); rintro e w' ⟨rfl, h36, d36, rfl⟩)
    go_returns
    exact ⟨rfl, (by repeat' (first | (with_reducible exact Grows.refl _) | (with_reducible refine Grows.alloc ?_ _) | (with_reducible refine Grows.drew ?_) | (with_reducible refine Grows.ext ?_ _ _)))⟩
end Go.Proofs.Ytbobpgegkmcapaa

namespace Go.Proofs.Ytbobpgegkmcapaa
open Go.RowKit

theorem checked {S : Nat → Prop} {L : Lay} {vk vw : Value} {w : World} (h : LayAt S w L vk vw) : Calls Try.prog 16 #[.agg #[.int .i64 L.kind, .int .i64 L.pane, vk, vw]] w (Ret (.int .i64 (chkE L)) w) := check_any L vk vw w (h.mono fun _b hb _ => hb)
theorem chk_yes {L : Lay} (h : rightL L = true) : chkE L = 0 := by rw [chkE, if_pos h]
theorem chk_no {L : Lay} (h : rightL L = false) : chkE L = 440 := by rw [chkE, if_neg (by rw [h]; simp)]
theorem right_ok {L : Lay} (h : rightL L = true) : okTree L = true ∧ (panesL L).length ≤ 16 ∧ (panesL L).Nodup := by
  simp only [rightL, Bool.and_eq_true, decide_eq_true_eq] at h
  exact ⟨h.1.1, h.1.2, h.2⟩
theorem panesP_yes {S : Nat → Prop} (L : Lay) (hr : rightL L = true) (vk vw : Value) (w : World) (h : LayAt S w L vk vw) : Calls Try.prog 20 #[.agg #[.int .i64 L.kind, .int .i64 L.pane, vk, vw]] w (fun e w' => ∃ v, e = .returned v ∧ IntsAt (fun _ => True) w' v (panesL L) ∧ Grows w w') := by
  obtain ⟨hok, hn, -⟩ := right_ok hr
  have hc := chk_yes hr
  obtain ⟨ka, kc, e1, -⟩ := h.kids.shape rfl
  obtain ⟨wa, wc, e2, -⟩ := h.ints.shape rfl
  subst e1 e2
  have HC := Lib.hid fun W (g : Grows w W) => checked (h.grows g)
  have HP := Lib.hid fun W (g : Grows w W) => panes_any L hok (by omega) _ _ W (h.grows g)
  rw [hc] at HC
  clear h hok hn hc hr
  generalize L.kids.length = kn at *
  generalize L.ws.length = wn at *
  go_enter Try.func20, Try.ntmps20
  go_wp2_with (first | (go_at_call 16; (with_reducible refine (HC.out _ (by repeat' (first | (with_reducible exact Grows.refl _) | (with_reducible refine Grows.alloc ?_ _) | (with_reducible refine Grows.drew ?_) | (with_reducible refine Grows.ext ?_ _ _)))).mono ?_); rintro e w' ⟨rfl, h41, d41, rfl⟩) | (go_at_call 48; (with_reducible refine (HP.out _ (by repeat' (first | (with_reducible exact Grows.refl _) | (with_reducible refine Grows.alloc ?_ _) | (with_reducible refine Grows.drew ?_) | (with_reducible refine Grows.ext ?_ _ _)))).mono ?_); rintro e w2 ⟨v2, rfl, hv2, hg2⟩))
  go_returns
  exact ⟨_, rfl, hv2.mono (fun _ _ _ => trivial), (by repeat' (first | (with_reducible exact Grows.refl _) | (with_reducible refine Grows.trans ?_ hg2) | (with_reducible refine Grows.alloc ?_ _) | (with_reducible refine Grows.drew ?_) | (with_reducible refine Grows.ext ?_ _ _)))⟩
theorem panesP_no {S : Nat → Prop} (L : Lay) (hr : rightL L = false) (vk vw : Value) (w : World) (h : LayAt S w L vk vw) : Calls Try.prog 20 #[.agg #[.int .i64 L.kind, .int .i64 L.pane, vk, vw]] w (Ret (.slice none 0 0) w) := by
  have hc := chk_no hr
  obtain ⟨ka, kc, e1, -⟩ := h.kids.shape rfl
  obtain ⟨wa, wc, e2, -⟩ := h.ints.shape rfl
  subst e1 e2
  have HC := Lib.hid fun W (g : Grows w W) => checked (h.grows g)
  rw [hc] at HC
  clear h hc hr
  generalize L.kids.length = kn at *
  generalize L.ws.length = wn at *
  go_enter Try.func20, Try.ntmps20
  go_wp2_with (first | (go_at_call 16; (with_reducible refine (HC.out _ (by repeat' (first | (with_reducible exact Grows.refl _) | (with_reducible refine Grows.alloc ?_ _) | (with_reducible refine Grows.drew ?_) | (with_reducible refine Grows.ext ?_ _ _)))).mono ?_); rintro e w' ⟨rfl, h41, d41, rfl⟩))
  go_returns
  exact ⟨rfl, (by repeat' (first | (with_reducible exact Grows.refl _) | (with_reducible refine Grows.alloc ?_ _) | (with_reducible refine Grows.drew ?_) | (with_reducible refine Grows.ext ?_ _ _)))⟩
set_option maxHeartbeats 1000000 in
theorem minP_yes {S : Nat → Prop} (L : Lay) (hr : rightL L = true) (vk vw : Value) (w : World) (h : LayAt S w L vk vw) : Calls Try.prog 19 #[.agg #[.int .i64 L.kind, .int .i64 L.pane, vk, vw]] w (Ret (.tuple #[.int .i64 (colsL L), .int .i64 (rowsL L), .int .i64 0]) w) := by
  obtain ⟨hok, hn, -⟩ := right_ok hr
  have hc := chk_yes hr
  obtain ⟨ka, kc, e1, -⟩ := h.kids.shape rfl
  obtain ⟨wa, wc, e2, -⟩ := h.ints.shape rfl
  subst e1 e2
  have HC := Lib.hid fun W (g : Grows w W) => checked (h.grows g)
  have HM := Lib.hid fun W (g : Grows w W) => minimum_any L hok (by omega) _ _ W (h.grows g)
  rw [hc] at HC
  clear h hok hn hc hr
  generalize L.kids.length = kn at *
  generalize L.ws.length = wn at *
  generalize colsL L = c at *
  generalize rowsL L = r at *
  go_enter Try.func19, Try.ntmps19
  go_upto_region 5 with (first | (go_at_call 16; (with_reducible refine (HC.out _ (by repeat' (first | (with_reducible exact Grows.refl _) | (with_reducible refine Grows.alloc ?_ _) | (with_reducible refine Grows.drew ?_) | (with_reducible refine Grows.ext ?_ _ _)))).mono ?_); rintro e w' ⟨rfl, h41, d41, rfl⟩) | (go_at_call 39; (with_reducible refine (HM.out _ (by repeat' (first | (with_reducible exact Grows.refl _) | (with_reducible refine Grows.alloc ?_ _) | (with_reducible refine Grows.drew ?_) | (with_reducible refine Grows.ext ?_ _ _)))).mono ?_); rintro e w' ⟨rfl, h40, d40, rfl⟩))
  refine wp_region_grow (by kernel_rfl) (by kernel_rfl) ?_
  repeat (first | go_big_quiet_step ((fail)) | quiet_step ((fail)))
  refine wpQuiet_nil ?_
  rintro _ ⟨g38, rfl⟩
  go_wp2
  go_returns
  exact ⟨rfl, (by repeat' (first | (with_reducible exact Grows.refl _) | (with_reducible refine Grows.alloc ?_ _) | (with_reducible refine Grows.drew ?_) | (with_reducible refine Grows.ext ?_ _ _)))⟩
end Go.Proofs.Ytbobpgegkmcapaa

namespace Go.Proofs.Ytbobpgegkmcapaa
open Go.RowKit

theorem take_eq_snoc {α : Type _} {l l' : List α} {i : Nat} {x : α} (h : l.take i = l'.take i) (hx : l[i]? = some x) (hy : l'[i]? = some x) : l.take (i + 1) = l'.take (i + 1) := by
  rw [take_snoc hx, take_snoc hy, h]
theorem eq_of_take {α : Type _} {l l' : List α} (h : l.take l.length = l'.take l.length) (hl : l.length = l'.length) : l = l' := by
  rw [List.take_length, hl, List.take_length] at h
  exact h
set_option maxHeartbeats 1000000 in
theorem equal_ints {S S' : Nat → Prop} (v v' : Value) (l l' : List Int) (w : World) (h : IntsAt S w v l) (h' : IntsAt S' w v' l') : Calls Try.prog 21 #[v, v'] w (fun e w' => ∃ r : Bool, (r = true ↔ l = l') ∧ e = .returned (.bool r) ∧ Grows w w') := by
  obtain ⟨a, c, rfl, hc, hm, hin⟩ := h.open_ rfl
  obtain ⟨a', c', rfl, hc', hm', hin'⟩ := h'.open_ rfl
  have Hin := Lib.hid hin
  have Hin' := Lib.hid hin'
  clear hin hin' h h'
  by_cases hl : l.length = l'.length
  · have q : ((l.length : Int) != (l'.length : Int)) = false := by simp; omega
    go_enter Try.func21, Try.ntmps21
    go_wp2
    go_loopw [13] (fun i wr => ∃ k : Nat, ∃ wv : World, wv = wr ∧ k ≤ l.length ∧ i = .int .i64 k ∧ l.take k = l'.take k ∧ Grows w wv) (fun i _ => l.length - (intOf i).toNat)
    case atStart => exact ⟨0, _, rfl, Nat.zero_le _, rfl, rfl, Grows.refl _⟩
    case round =>
      obtain ⟨k, wv, rfl, hk, rfl, he, hg⟩ := hrel
      have HG := Lib.hid hg
      have HE := Lib.hid he
      by_cases hlt : k < l.length
      · obtain ⟨b, off, x, rfl, hb, -, hx, -, c0⟩ := (Hin.out.grows hg).at_ hlt
        obtain ⟨b', off', y, rfl, hb', -, hy, -, c1⟩ := (Hin'.out.grows hg).at_ (i := k) (by omega)
        have HX := Lib.hid (And.intro hx hy)
        clear he hg hx hy
        by_cases hxy : x = y
        · subst hxy
          have g : (x != x) = false := by simp
          go_upto_region 6 with fail
          refine wp_region_grow (by kernel_rfl) (by kernel_rfl) ?_
          repeat (first | go_big_quiet_step ((fail)) | quiet_step ((fail)))
          refine wpQuiet_nil ?_
          rintro _ ⟨g42, rfl⟩
          go_wp2
          go_roundw
          case rel => exact ⟨k + 1, _, rfl, by omega, by go_num, take_eq_snoc HE.out HX.out.1 HX.out.2, HG.out.trans (by repeat' (first | (with_reducible exact Grows.refl _) | (with_reducible refine Grows.alloc ?_ _) | (with_reducible refine Grows.drew ?_) | (with_reducible refine Grows.ext ?_ _ _)))⟩
          case measure => simp [intOf]; omega
        · have g : (x != y) = true := by simpa using hxy
          have HN := Lib.hid hxy
          clear hxy
          go_upto_region 6 with fail
          refine wp_region_grow (by kernel_rfl) (by kernel_rfl) ?_
          repeat (first | go_big_quiet_step ((fail)) | quiet_step ((fail)))
          refine wpQuiet_nil ?_
          rintro _ ⟨g43, rfl⟩
          go_wp2
          go_ret
          refine ⟨false, ⟨fun h => (by cases h), fun h => absurd ?_ HN.out⟩, rfl, HG.out.trans (by repeat' (first | (with_reducible exact Grows.refl _) | (with_reducible refine Grows.alloc ?_ _) | (with_reducible refine Grows.drew ?_) | (with_reducible refine Grows.ext ?_ _ _)))⟩
          subst h
          exact Option.some.inj (HX.out.1.symm.trans HX.out.2)
      · have e : k = l.length := by omega
        subst e
        clear hg he
        go_wp2_with fail
        go_ret
        exact ⟨true, ⟨fun _ => eq_of_take HE.out hl, fun _ => rfl⟩, rfl, HG.out⟩
  · have q : ((l.length : Int) != (l'.length : Int)) = true := by simp; omega
    go_enter Try.func21, Try.ntmps21
    go_wp2
    go_returns
    exact ⟨false, ⟨fun h => (by cases h), fun h => absurd (by rw [h]) hl⟩, rfl, (by repeat' (first | (with_reducible exact Grows.refl _) | (with_reducible refine Grows.alloc ?_ _) | (with_reducible refine Grows.drew ?_) | (with_reducible refine Grows.ext ?_ _ _)))⟩
end Go.Proofs.Ytbobpgegkmcapaa

namespace Go.Proofs.Ytbobpgegkmcapaa
open Go.RowKit

end Go.Proofs.Ytbobpgegkmcapaa

namespace Go.Proofs.Ytbobpgegkmcapaa
open Go.RowKit

/-- As many weights as kids, everywhere. -/
def regL : Lay → Bool := Lay.fold fun _ _ ks ws r => decide (ws.length = ks.length) && r.all id
theorem regL_mk (k p : Int) (ks : List Lay) (ws : List Int) : regL (.mk k p ks ws) = (decide (ws.length = ks.length) && ks.all regL) := by
  rw [regL, Lay.fold_mk]
  simp [List.all_map, Function.comp_def]
theorem reg_ok (l : Lay) (h : okTree l = true) : regL l = true := by
  revert h
  refine Lay.ind (P := fun l => okTree l = true → regL l = true) ?_ l
  intro k p ks ws ih h
  obtain ⟨h1, h2⟩ := okTree_iff.1 h
  rw [regL_mk, Bool.and_eq_true, decide_eq_true_eq, List.all_eq_true]
  refine ⟨?_, fun x hx => ih x hx (h2 x hx)⟩
  by_cases hk : k = 1
  · obtain ⟨-, -, h3, h4⟩ := validN_leaf h1 hk
    have h3' : ks = [] := h3
    have h4' : ws = [] := h4
    rw [h3', h4']
    rfl
  · exact (validN_split h1 hk).2.2.2.1
theorem rs_head (k p k' p' : Int) (a wa a' wa' : Option Addr) (kn c wn wc kn' c' wn' wc' : Nat) (w : World) (h : ¬ (k = k' ∧ p = p' ∧ kn = kn' ∧ wn = wn')) : Calls Try.prog 17 #[.agg #[.int .i64 k, .int .i64 p, .slice a kn c, .slice wa wn wc], .agg #[.int .i64 k', .int .i64 p', .slice a' kn' c', .slice wa' wn' wc']] w (Ret (.bool false) w) := by
  by_cases hk : k = k'
  · by_cases hp : p = p'
    · by_cases hn : kn = kn'
      · have hw : ¬ wn = wn' := fun e => h ⟨hk, hp, hn, e⟩
        have g : ((wn : Int) != (wn' : Int)) = true := by simp; omega
        have g1 : (k != k) = false := by simp
        have g2 : (p != p) = false := by simp
        have g3 : ((kn : Int) != (kn : Int)) = false := by simp
        subst hk hp hn
        clear h hw
        go_enter Try.func17, Try.ntmps17
        go_wp2
        go_returns
        exact ⟨rfl, (by repeat' (first | (with_reducible exact Grows.refl _) | (with_reducible refine Grows.alloc ?_ _) | (with_reducible refine Grows.drew ?_) | (with_reducible refine Grows.ext ?_ _ _)))⟩
      · have g : ((kn : Int) != (kn' : Int)) = true := by simp; omega
        have g1 : (k != k) = false := by simp
        have g2 : (p != p) = false := by simp
        subst hk hp
        clear h hn
        go_enter Try.func17, Try.ntmps17
        go_wp2
        go_returns
        exact ⟨rfl, (by repeat' (first | (with_reducible exact Grows.refl _) | (with_reducible refine Grows.alloc ?_ _) | (with_reducible refine Grows.drew ?_) | (with_reducible refine Grows.ext ?_ _ _)))⟩
    · have g : (p != p') = true := by simpa using hp
      have g1 : (k != k) = false := by simp
      subst hk
      clear h hp
      go_enter Try.func17, Try.ntmps17
      go_wp2
      go_returns
      exact ⟨rfl, (by repeat' (first | (with_reducible exact Grows.refl _) | (with_reducible refine Grows.alloc ?_ _) | (with_reducible refine Grows.drew ?_) | (with_reducible refine Grows.ext ?_ _ _)))⟩
  · have g : (k != k') = true := by simpa using hk
    clear h hk
    go_enter Try.func17, Try.ntmps17
    go_wp2
    go_returns
    exact ⟨rfl, (by repeat' (first | (with_reducible exact Grows.refl _) | (with_reducible refine Grows.alloc ?_ _) | (with_reducible refine Grows.drew ?_) | (with_reducible refine Grows.ext ?_ _ _)))⟩
theorem fix_bool {f : Nat} {args : Array Value} {w : World} {p : Prop} (h : Calls Try.prog f args w (fun e w' => ∃ r : Bool, (r = true ↔ p) ∧ e = .returned (.bool r) ∧ Grows w w')) {b : Bool} (hb : b = true ↔ p) : Calls Try.prog f args w (Ret (.bool b) w) :=
  h.mono fun _e _w' ⟨_r, hr, he, hg⟩ => ⟨he.trans (ret_bool (Bool.eq_iff_iff.2 (hr.trans hb.symm))), hg⟩
set_option maxRecDepth 100000 in
set_option maxHeartbeats 4000000 in
theorem rs_loop {S S' : Nat → Prop} (k p : Int) (ks : List Lay) (ws : List Int) (ks' : List Lay) (ws' : List Int) (vk vw vk' vw' : Value) (w : World) (hK : KidsAt S w vk ks) (hI : IntsAt S w vw ws) (hK' : KidsAt S' w vk' ks') (hI' : IntsAt S' w vw' ws')
    (h1 : ks'.length = ks.length) (h2 : ws.length = ks.length) (h3 : ws'.length = ks.length)
    (ih : ∀ x ∈ ks, ∀ y ∈ ks', ∀ (vk vw vk' vw' : Value) (w : World), LayAt S w x vk vw → LayAt S' w y vk' vw' → Calls Try.prog 17 #[.agg #[.int .i64 x.kind, .int .i64 x.pane, vk, vw], .agg #[.int .i64 y.kind, .int .i64 y.pane, vk', vw']] w (fun e w' => ∃ r : Bool, (r = true ↔ x = y) ∧ e = .returned (.bool r) ∧ Grows w w')) :
    Calls Try.prog 17 #[.agg #[.int .i64 k, .int .i64 p, vk, vw], .agg #[.int .i64 k, .int .i64 p, vk', vw']] w (fun e w' => ∃ r : Bool, (r = true ↔ ks = ks' ∧ ws = ws') ∧ e = .returned (.bool r) ∧ Grows w w') := by
  obtain ⟨a, c, G, rfl, hc, hm, hin⟩ := hK.open_ rfl
  obtain ⟨wa, wc, rfl, hwc, -, hiw⟩ := hI.open_ h2
  obtain ⟨a', c', G', rfl, hc', hm', hin'⟩ := hK'.open_ h1
  obtain ⟨wa', wc', rfl, hwc', -, hiw'⟩ := hI'.open_ h3
  have Hin := Lib.hid hin
  have Hin' := Lib.hid hin'
  have Hiw := Lib.hid hiw
  have Hiw' := Lib.hid hiw'
  have IH := Lib.hid ih
  have HN := Lib.hid (And.intro h1 (And.intro h2 h3))
  have g1 : (k != k) = false := by simp
  have g2 : (p != p) = false := by simp
  have g3 : ((ks.length : Int) != (ks.length : Int)) = false := by simp
  clear hin hin' hiw hiw' hK hI hK' hI' ih h1 h2 h3
  go_enter Try.func17, Try.ntmps17
  go_upto_region 1 with fail
  refine abs_worldM (fun W => Grows w W ∧ Blk W w.heap.size 25 #[.int .i64 k, .int .i64 p, .slice a ks.length c, .slice wa ks.length wc] ∧ Blk W (w.heap.size + 1) 25 #[.int .i64 k, .int .i64 p, .slice a' ks.length c', .slice wa' ks.length wc']) ?_ ?_
  · exact boxes2 _ _ _
  rintro W0 ⟨hg0, hb0, hb1⟩
  obtain ⟨c0, c1, c2, c3⟩ := hb0.four
  obtain ⟨d0, d1, d2, d3⟩ := hb1.four
  have hl0 := hb0.lt
  have hl1 := hb1.lt
  have HB0 := Lib.hid hb0
  have HB1 := Lib.hid hb1
  have HG0 := Lib.hid hg0
  clear hb0 hb1 hg0
  go_wp2
  go_loopw [5] (fun i wr => ∃ m : Nat, ∃ wv : World, wv = wr ∧ m ≤ ks.length ∧ i = .int .i64 m ∧ ks.take m = ks'.take m ∧ ws.take m = ws'.take m ∧ Grows W0 wv) (fun i _ => ks.length - (intOf i).toNat)
  case atStart => exact ⟨0, _, rfl, Nat.zero_le _, rfl, rfl, rfl, Grows.refl _⟩
  case round =>
    obtain ⟨m, wv, rfl, hm, rfl, he1, he2, hg⟩ := hrel
    have HG := Lib.hid hg
    have HE := Lib.hid (And.intro he1 he2)
    obtain ⟨c0, c1, c2, c3⟩ := (HB0.out.grows hg).four
    obtain ⟨d0, d1, d2, d3⟩ := (HB1.out.grows hg).four
    have hlv := (HB0.out.grows hg).lt
    have hlv1 := (HB1.out.grows hg).lt
    by_cases hlt : m < ks.length
    · obtain ⟨b, off, x, ka, kn, kc, xa, xn, xc, rfl, hb, -, hx, hmem, -, -, e0, e1, e4, e3, hL⟩ := (Hin.out.grows (HG0.out.trans hg)).at_ hlt
      obtain ⟨b', off', y, ka', kn', kc', xa', xn', xc', rfl, hb', -, hy, hmem', -, -, f0, f1, f4, f3, hL'⟩ := (Hin'.out.grows (HG0.out.trans hg)).at_ (i := m) (by rw [HN.out.1]; exact hlt)
      obtain ⟨b2, off2, u, rfl, hb2, -, hu, -, p0⟩ := (Hiw.out.grows (HG0.out.trans hg)).at_ (i := m) (by rw [HN.out.2.1]; exact hlt)
      obtain ⟨b3, off3, v, rfl, hb3, -, hv, -, p1⟩ := (Hiw'.out.grows (HG0.out.trans hg)).at_ (i := m) (by rw [HN.out.2.2]; exact hlt)
      have HX := Lib.hid (And.intro hx (And.intro hy (And.intro hu hv)))
      by_cases huv : u = v
      · subst huv
        have q1 : (u != u) = false := by simp
        by_cases hxy : x = y
        · have HC := Lib.hid fun W (g : Grows wv W) => fix_bool (b := true) (IH.out x hmem y hmem' _ _ _ _ W (hL.grows g) (hL'.grows g)) (by simpa using hxy)
          have HXY := Lib.hid hxy
          clear he1 he2 hg hx hy hmem hmem' hL hL' hu hv hxy
          go_upto_region 6 with fail
          refine wp_region_grow (by kernel_rfl) (by kernel_rfl) ?_
          repeat (first | go_big_quiet_step ((first | (rename_i xg; go_at_call 17; (with_reducible refine (HC.out _ ((Grows.refl wv).ext _ _)).mono ?_); rintro _ _ ⟨rfl, h0, d0, rfl⟩; exact ⟨rfl, Gr.mk (xg.h ++ h0) d0, by simp only [ext_ext, Gr.h_mk, Gr.d_mk]⟩))) | quiet_step ((first | (rename_i xg; go_at_call 17; (with_reducible refine (HC.out _ ((Grows.refl wv).ext _ _)).mono ?_); rintro _ _ ⟨rfl, h0, d0, rfl⟩; exact ⟨rfl, Gr.mk (xg.h ++ h0) d0, by simp only [ext_ext, Gr.h_mk, Gr.d_mk, Array.append_assoc]⟩))))
          refine wpQuiet_nil ?_
          rintro _ ⟨g46, rfl⟩
          go_wp2
          go_roundw
          case rel => exact ⟨m + 1, _, rfl, by omega, by go_num, take_eq_snoc HE.out.1 HX.out.1 (HXY.out ▸ HX.out.2.1), take_eq_snoc HE.out.2 HX.out.2.2.1 HX.out.2.2.2, HG.out.trans (by repeat' (first | (with_reducible exact Grows.refl _) | (with_reducible refine Grows.alloc ?_ _) | (with_reducible refine Grows.drew ?_) | (with_reducible refine Grows.ext ?_ _ _)))⟩
          case measure => simp [intOf]; omega
        · have HC := Lib.hid fun W (g : Grows wv W) => fix_bool (b := false) (IH.out x hmem y hmem' _ _ _ _ W (hL.grows g) (hL'.grows g)) (by simpa using hxy)
          have HXY := Lib.hid hxy
          clear he1 he2 hg hx hy hmem hmem' hL hL' hu hv hxy
          go_upto_region 6 with fail
          refine wp_region_grow (by kernel_rfl) (by kernel_rfl) ?_
          repeat (first | go_big_quiet_step ((first | (rename_i xg; go_at_call 17; (with_reducible refine (HC.out _ ((Grows.refl wv).ext _ _)).mono ?_); rintro _ _ ⟨rfl, h0, d0, rfl⟩; exact ⟨rfl, Gr.mk (xg.h ++ h0) d0, by simp only [ext_ext, Gr.h_mk, Gr.d_mk]⟩))) | quiet_step ((first | (rename_i xg; go_at_call 17; (with_reducible refine (HC.out _ ((Grows.refl wv).ext _ _)).mono ?_); rintro _ _ ⟨rfl, h0, d0, rfl⟩; exact ⟨rfl, Gr.mk (xg.h ++ h0) d0, by simp only [ext_ext, Gr.h_mk, Gr.d_mk, Array.append_assoc]⟩))))
          refine wpQuiet_nil ?_
          rintro _ ⟨g47, rfl⟩
          go_wp2
          go_ret
          refine ⟨false, ⟨fun h => (by cases h), fun h => absurd ?_ HXY.out⟩, rfl, (HG0.out.trans HG.out).trans (by repeat' (first | (with_reducible exact Grows.refl _) | (with_reducible refine Grows.alloc ?_ _) | (with_reducible refine Grows.drew ?_) | (with_reducible refine Grows.ext ?_ _ _)))⟩
          have hh := HX.out.2.1
          rw [← h.1] at hh
          exact Option.some.inj (HX.out.1.symm.trans hh)
      · have q1 : (u != v) = true := by simpa using huv
        have HXY := Lib.hid huv
        clear he1 he2 hg hx hy hmem hmem' hL hL' hu hv huv
        go_upto_region 6 with fail
        refine wp_region_grow (by kernel_rfl) (by kernel_rfl) ?_
        repeat (first | go_big_quiet_step ((fail)) | quiet_step ((fail)))
        refine wpQuiet_nil ?_
        rintro _ ⟨g48, rfl⟩
        go_wp2
        go_ret
        refine ⟨false, ⟨fun h => (by cases h), fun h => absurd ?_ HXY.out⟩, rfl, (HG0.out.trans HG.out).trans (by repeat' (first | (with_reducible exact Grows.refl _) | (with_reducible refine Grows.alloc ?_ _) | (with_reducible refine Grows.drew ?_) | (with_reducible refine Grows.ext ?_ _ _)))⟩
        have hh := HX.out.2.2.2
        rw [← h.2] at hh
        exact Option.some.inj (HX.out.2.2.1.symm.trans hh)
    · have e : m = ks.length := by omega
      subst e
      clear hg he1 he2
      go_wp2_with fail
      go_ret
      refine ⟨true, ⟨fun _ => ⟨eq_of_take HE.out.1 HN.out.1.symm, ?_⟩, fun _ => rfl⟩, rfl, HG0.out.trans HG.out⟩
      have hh := HE.out.2
      rw [← HN.out.2.1] at hh
      exact eq_of_take hh (HN.out.2.1.trans HN.out.2.2.symm)
theorem sameR_any {S S' : Nat → Prop} (x : Lay) : ∀ (y : Lay) (vk vw vk' vw' : Value) (w : World), regL x = true → regL y = true → LayAt S w x vk vw → LayAt S' w y vk' vw' → Calls Try.prog 17 #[.agg #[.int .i64 x.kind, .int .i64 x.pane, vk, vw], .agg #[.int .i64 y.kind, .int .i64 y.pane, vk', vw']] w (fun e w' => ∃ r : Bool, (r = true ↔ x = y) ∧ e = .returned (.bool r) ∧ Grows w w') := by
  induction x using Lay.ind with | h k p ks ws ih => ?_
  rintro ⟨k', p', ks', ws'⟩ vk vw vk' vw' w hr hr' h h'
  rw [regL_mk, Bool.and_eq_true, decide_eq_true_eq, List.all_eq_true] at hr hr'
  by_cases hh : k = k' ∧ p = p' ∧ ks.length = ks'.length ∧ ws.length = ws'.length
  · obtain ⟨rfl, rfl, h1, h2⟩ := hh
    refine (rs_loop k p ks ws ks' ws' vk vw vk' vw' w h.kids h.ints h'.kids h'.ints h1.symm hr.1 (by omega) fun x hx y hy vk vw vk' vw' w hL hL' => ih x hx y vk vw vk' vw' w (hr.2 x hx) (hr'.2 y hy) hL hL').mono ?_
    rintro e w' ⟨r, hq, he, hg⟩
    refine ⟨r, hq.trans ⟨fun e => by rw [e.1, e.2], fun e => ?_⟩, he, hg⟩
    injection e with _ _ e3 e4
    exact ⟨e3, e4⟩
  · obtain ⟨ka, kc, e1, -⟩ := h.kids.shape rfl
    obtain ⟨wa, wc, e2, -⟩ := h.ints.shape rfl
    obtain ⟨ka', kc', e3, -⟩ := h'.kids.shape rfl
    obtain ⟨wa', wc', e4, -⟩ := h'.ints.shape rfl
    subst e1 e2 e3 e4
    refine (rs_head k p k' p' ka wa ka' wa' _ kc _ wc _ kc' _ wc' w hh).mono fun e w' hq => ⟨false, ⟨fun e => (by cases e), fun e => ?_⟩, hq.1, hq.2⟩
    injection e with e1 e2 e3 e4
    exact absurd ⟨e1, e2, by rw [e3], by rw [e4]⟩ hh
end Go.Proofs.Ytbobpgegkmcapaa

