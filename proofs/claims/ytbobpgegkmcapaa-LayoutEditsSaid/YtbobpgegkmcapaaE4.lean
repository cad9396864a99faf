/-
  Walks: leaves, of the reference.
-/
import Derived.Test.YtbobpgegkmcapaaRows
import Derived.Test.YtbobpgegkmcapaaE1
import Derived.Test.YtbobpgegkmcapaaE2
import Derived.WalkKit
import Derived.WalkSpells
import Derived.WalkLawsBesides
import Derived.Handy
import Derived.Laws.Rows
import Derived.Great.BuildSlice
import Derived.Deep.Heap
import Derived.IntWalk
import Derived.Lib.Hide
import Derived.Outline
import Derived.Deep.Light
import Derived.Deep.LoopGhost
import Derived.BigGuardPart
import Derived.BigQuiet
import Derived.Deep.QuietTactic
import Derived.Deep.RegionHeld3
import Derived.Deep.DeepCutAuto
import Derived.Deep.CutBlock
namespace Go.Proofs.Ytbobpgegkmcapaa
open Go.RowKit

theorem lv_small (k p : Int) (a wa : Option Addr) (kn cap wn wc : Nat) (most : Int) (hm : most < 1) (w : World) : Calls Try.prog 41 #[.agg #[.int .i64 k, .int .i64 p, .slice a kn cap, .slice wa wn wc], .int .i64 most] w (Ret (.int .i64 (-1)) w) := by
  have e : decide (most < 1) = true := by simpa using hm
  clear hm
  go_enter Try.func41, Try.ntmps41
  go_wp2
  go_returns
  exact ⟨rfl, (by repeat' (first | (with_reducible exact Grows.refl _) | (with_reducible refine Grows.alloc ?_ _) | (with_reducible refine Grows.drew ?_) | (with_reducible refine Grows.ext ?_ _ _)))⟩
theorem lv_leaf (p : Int) (a wa : Option Addr) (kn cap wn wc : Nat) (most : Int) (hm : 1 ≤ most) (hp : 0 ≤ p ∧ p ≤ 999 ∧ kn = 0 ∧ wn = 0) (w : World) : Calls Try.prog 41 #[.agg #[.int .i64 1, .int .i64 p, .slice a kn cap, .slice wa wn wc], .int .i64 most] w (Ret (.int .i64 1) w) := by
  have e : decide (most < 1) = false := by simpa using hm
  obtain ⟨h0, h1, rfl, rfl⟩ := hp
  have e0 : decide (p < 0) = false := by simpa using h0
  have e1 : decide (999 < p) = false := by simpa using h1
  clear hm h0 h1
  go_enter Try.func41, Try.ntmps41
  go_wp2
  go_returns
  exact ⟨rfl, (by repeat' (first | (with_reducible exact Grows.refl _) | (with_reducible refine Grows.alloc ?_ _) | (with_reducible refine Grows.drew ?_) | (with_reducible refine Grows.ext ?_ _ _)))⟩
theorem lv_leaf_bad (p : Int) (a wa : Option Addr) (kn cap wn wc : Nat) (most : Int) (hm : 1 ≤ most) (hp : ¬ (0 ≤ p ∧ p ≤ 999 ∧ kn = 0 ∧ wn = 0)) (w : World) : Calls Try.prog 41 #[.agg #[.int .i64 1, .int .i64 p, .slice a kn cap, .slice wa wn wc], .int .i64 most] w (Ret (.int .i64 (-1)) w) := by
  have e : decide (most < 1) = false := by simpa using hm
  by_cases h0 : p < 0
  · have e0 : decide (p < 0) = true := by simpa using h0
    clear hm h0 hp
    go_enter Try.func41, Try.ntmps41
    go_wp2
    go_returns
    exact ⟨rfl, (by repeat' (first | (with_reducible exact Grows.refl _) | (with_reducible refine Grows.alloc ?_ _) | (with_reducible refine Grows.drew ?_) | (with_reducible refine Grows.ext ?_ _ _)))⟩
  · have e0 : decide (p < 0) = false := by simpa using h0
    by_cases h1 : 999 < p
    · have e1 : decide (999 < p) = true := by simpa using h1
      clear hm h0 hp h1
      go_enter Try.func41, Try.ntmps41
      go_wp2
      go_returns
      exact ⟨rfl, (by repeat' (first | (with_reducible exact Grows.refl _) | (with_reducible refine Grows.alloc ?_ _) | (with_reducible refine Grows.drew ?_) | (with_reducible refine Grows.ext ?_ _ _)))⟩
    · have e1 : decide (999 < p) = false := by simpa using h1
      by_cases h2 : kn = 0
      · have h3 : ¬ wn = 0 := fun h => hp ⟨by omega, by omega, h2, h⟩
        have e3 : 0 < wn := by omega
        subst h2
        clear hm h0 hp h1
        go_enter Try.func41, Try.ntmps41
        go_wp2
        go_returns
        exact ⟨rfl, (by repeat' (first | (with_reducible exact Grows.refl _) | (with_reducible refine Grows.alloc ?_ _) | (with_reducible refine Grows.drew ?_) | (with_reducible refine Grows.ext ?_ _ _)))⟩
      · have e2 : 0 < kn := by omega
        clear hm h0 hp h1
        go_enter Try.func41, Try.ntmps41
        go_wp2
        go_returns
        exact ⟨rfl, (by repeat' (first | (with_reducible exact Grows.refl _) | (with_reducible refine Grows.alloc ?_ _) | (with_reducible refine Grows.drew ?_) | (with_reducible refine Grows.ext ?_ _ _)))⟩
theorem lv_head (k p : Int) (a wa : Option Addr) (kn cap wn wc : Nat) (most : Int) (hm : 1 ≤ most) (w : World) (hk : ¬ k = 1) (hbad : ¬ ((k = 2 ∨ k = 3) ∧ p = 0 ∧ 2 ≤ kn ∧ wn = kn)) : Calls Try.prog 41 #[.agg #[.int .i64 k, .int .i64 p, .slice a kn cap, .slice wa wn wc], .int .i64 most] w (Ret (.int .i64 (-1)) w) := by
  have e : decide (most < 1) = false := by simpa using hm
  have ek : (k == 1) = false := by simpa using hk
  by_cases h0 : k = 2 ∨ k = 3
  · by_cases h1 : p = 0
    · subst h1
      by_cases h2 : 2 ≤ kn
      · have h3 : ¬ wn = kn := fun e => hbad ⟨h0, rfl, h2, e⟩
        have e2 : decide ((kn : Int) < 2) = false := by simp; omega
        have e3 : ((wn : Int) != (kn : Int)) = true := by simp; omega
        rcases h0 with rfl | rfl
        · clear hbad hk hm
          go_enter Try.func41, Try.ntmps41
          go_wp2
          go_returns
          exact ⟨rfl, (by repeat' (first | (with_reducible exact Grows.refl _) | (with_reducible refine Grows.alloc ?_ _) | (with_reducible refine Grows.drew ?_) | (with_reducible refine Grows.ext ?_ _ _)))⟩
        · clear hbad hk hm
          go_enter Try.func41, Try.ntmps41
          go_wp2
          go_returns
          exact ⟨rfl, (by repeat' (first | (with_reducible exact Grows.refl _) | (with_reducible refine Grows.alloc ?_ _) | (with_reducible refine Grows.drew ?_) | (with_reducible refine Grows.ext ?_ _ _)))⟩
      · have e2 : decide ((kn : Int) < 2) = true := by simp; omega
        rcases h0 with rfl | rfl
        · clear hbad hk hm
          go_enter Try.func41, Try.ntmps41
          go_wp2
          go_returns
          exact ⟨rfl, (by repeat' (first | (with_reducible exact Grows.refl _) | (with_reducible refine Grows.alloc ?_ _) | (with_reducible refine Grows.drew ?_) | (with_reducible refine Grows.ext ?_ _ _)))⟩
        · clear hbad hk hm
          go_enter Try.func41, Try.ntmps41
          go_wp2
          go_returns
          exact ⟨rfl, (by repeat' (first | (with_reducible exact Grows.refl _) | (with_reducible refine Grows.alloc ?_ _) | (with_reducible refine Grows.drew ?_) | (with_reducible refine Grows.ext ?_ _ _)))⟩
    · have e1 : (p != 0) = true := by simpa using h1
      rcases h0 with rfl | rfl
      · clear hbad hk hm
        go_enter Try.func41, Try.ntmps41
        go_wp2
        go_returns
        exact ⟨rfl, (by repeat' (first | (with_reducible exact Grows.refl _) | (with_reducible refine Grows.alloc ?_ _) | (with_reducible refine Grows.drew ?_) | (with_reducible refine Grows.ext ?_ _ _)))⟩
      · clear hbad hk hm
        go_enter Try.func41, Try.ntmps41
        go_wp2
        go_returns
        exact ⟨rfl, (by repeat' (first | (with_reducible exact Grows.refl _) | (with_reducible refine Grows.alloc ?_ _) | (with_reducible refine Grows.drew ?_) | (with_reducible refine Grows.ext ?_ _ _)))⟩
  · have e2 : (k != 2) = true := by simp; omega
    have e3 : (k != 3) = true := by simp; omega
    clear h0 hbad hk hm
    go_enter Try.func41, Try.ntmps41
    go_wp2
    go_returns
    exact ⟨rfl, (by repeat' (first | (with_reducible exact Grows.refl _) | (with_reducible refine Grows.alloc ?_ _) | (with_reducible refine Grows.drew ?_) | (with_reducible refine Grows.ext ?_ _ _)))⟩
def nlI (x : Lay) : Int := ((panesL x).length : Int)
theorem sum_nl (ks : List Lay) : sumI (ks.map nlI) = ((ks.map panesL).flatten.length : Int) := by
  induction ks with
  | nil => rfl
  | cons x ks ih =>
    simp only [List.map_cons, sumI_cons, List.flatten_cons, List.length_append, ih, nlI]
    omega
theorem sumI_append (a b : List Int) : sumI (a ++ b) = sumI a + sumI b := by
  show (a ++ b).foldl (· + ·) 0 = _
  rw [List.foldl_append, foldl_add]
  rfl
theorem sum_take_nl (ks : List Lay) (m : Nat) : sumI ((ks.take m).map nlI) ≤ sumI (ks.map nlI) := by
  have h1 := sum_nl (ks.take m)
  have h2 := sum_nl (ks.drop m)
  have h3 : sumI (ks.map nlI) = sumI ((ks.take m).map nlI) + sumI ((ks.drop m).map nlI) := by
    rw [← sumI_append, ← List.map_append, List.take_append_drop]
  omega
def leafE (L : Lay) (most : Int) : Int := if okTree L = true ∧ nlI L ≤ most then nlI L else -1
theorem leafE_bad {L : Lay} {most : Int} (h : ¬ (okTree L = true ∧ nlI L ≤ most)) : leafE L most = -1 := if_neg h
theorem okTree_kid {k p : Int} {ks : List Lay} {ws : List Int} (h : okTree (.mk k p ks ws) = true) {x : Lay} (hx : x ∈ ks) : okTree x = true := (okTree_iff.1 h).2 x hx
theorem nl_split {k p : Int} {ks : List Lay} {ws : List Int} (hk : ¬ k = 1) : nlI (.mk k p ks ws) = sumI (ks.map nlI) := by rw [sum_nl, nlI, panesL_mk, if_neg hk]
set_option maxRecDepth 100000 in
set_option maxHeartbeats 4000000 in
theorem lv_split {S : Nat → Prop} (k : Int) (ks : List Lay) (ws : List Int) (vk vw : Value) (most : Int) (hm1 : 1 ≤ most) (hm2 : most ≤ 1000) (w : World) (hk : k = 2 ∨ k = 3) (h2 : 2 ≤ ks.length) (hl : ws.length = ks.length) (hK : KidsAt S w vk ks) (hI : IntsAt S w vw ws)
    (ih : ∀ x ∈ ks, ∀ (vk vw : Value) (w : World) (most : Int), -1000 ≤ most → most ≤ 1000 → LayAt S w x vk vw → Calls Try.prog 41 #[.agg #[.int .i64 x.kind, .int .i64 x.pane, vk, vw], .int .i64 most] w (Ret (.int .i64 (leafE x most)) w)) :
    Calls Try.prog 41 #[.agg #[.int .i64 k, .int .i64 0, vk, vw], .int .i64 most] w (Ret (.int .i64 (leafE (.mk k 0 ks ws) most)) w) := by
  obtain ⟨a, cap, G, rfl, hcap, hmx, hin⟩ := hK.open_ rfl
  obtain ⟨wa, wc, rfl, hwc, -, hiw⟩ := hI.open_ hl
  have e : decide (most < 1) = false := by simpa using hm1
  have ek : (k == 1) = false := by simp; omega
  have ek2 : ((k != 2) && (k != 3)) = false := by rcases hk with rfl | rfl <;> rfl
  have e2 : decide ((ks.length : Int) < 2) = false := by simp; omega
  have hk1 : ¬ k = 1 := by omega
  have HE : ∃ z, leafE (.mk k 0 ks ws) most = z := ⟨_, rfl⟩
  obtain ⟨z, hz⟩ := HE
  rw [hz]
  have hvn : validN (.mk k 0 ks ws) = (ks.all (fun x => decide (x.kind ≠ k)) && ws.all (fun x => decide (1 ≤ x) && decide (x ≤ 1000))) := by
    rw [validN_mk, if_neg hk1]
    have q : (decide (k = 2) || decide (k = 3)) = true := by simpa using hk
    rw [q, decide_eq_true (rfl : (0 : Int) = 0), decide_eq_true h2, decide_eq_true hl]
    rfl
  have hbad1 : (validN (.mk k 0 ks ws) = false) → z = -1 := fun h => by
    rw [← hz]
    exact leafE_bad fun h' => by rw [(okTree_iff.1 h'.1).1] at h; cases h
  have hbad2 : ∀ m x, ks[m]? = some x → ¬ (okTree x = true ∧ nlI x ≤ most - sumI ((ks.take m).map nlI)) → z = -1 := fun m x hx h => by
    rw [← hz]
    refine leafE_bad fun h' => h ⟨okTree_kid h'.1 (List.mem_of_getElem? hx), ?_⟩
    have h1 := h'.2
    rw [nl_split hk1] at h1
    have h2 := sum_take_nl ks (m + 1)
    rw [take_snoc hx, List.map_append, List.map_singleton, sumI_snoc] at h2
    omega
  have hgood : ks.all okTree = true → ks.all (fun x => decide (x.kind ≠ k)) = true → ws.all (fun x => decide (1 ≤ x) && decide (x ≤ 1000)) = true → sumI (ks.map nlI) ≤ most → z = sumI (ks.map nlI) := fun g1 g2 g3 g4 => by
    rw [← hz, leafE, if_pos, nl_split hk1]
    refine ⟨okTree_iff.2 ⟨by rw [hvn, g2, g3]; rfl, List.all_eq_true.1 g1⟩, by rw [nl_split hk1]; exact g4⟩
  rw [hvn] at hbad1
  have Hin := Lib.hid hin
  have Hiw := Lib.hid hiw
  have HB1 := Lib.hid hbad1
  have HB2 := Lib.hid hbad2
  have HGD := Lib.hid hgood
  have IH := Lib.hid ih
  clear hin hiw hK hI hbad1 hbad2 hgood hvn hz ih
  rcases hk with rfl | rfl
  · clear hk1 ek2
    go_enter Try.func41, Try.ntmps41
    go_upto_region 1 with fail
    refine abs_worldM (fun W => Grows w W ∧ Blk W w.heap.size 25 #[.int .i64 2, .int .i64 0, .slice a ks.length cap, .slice wa ks.length wc]) ?_ ?_
    · exact boxes1 _ _
    rintro W0 ⟨hg0, hb0⟩
    obtain ⟨c0, c1, c2, c3⟩ := hb0.four
    have hl0 := hb0.lt
    have HB0 := Lib.hid hb0
    have HG0 := Lib.hid hg0
    clear hb0 hg0
    go_wp2
    go_loopw [5, 6] (fun t i wr => ∃ m : Nat, ∃ wv : World, wv = wr ∧ m ≤ ks.length ∧ i = .int .i64 m ∧ t = .int .i64 (sumI ((ks.take m).map nlI)) ∧ (ks.take m).all okTree = true ∧ (ks.take m).all (fun x => decide (x.kind ≠ 2)) = true ∧ (ws.take m).all (fun x => decide (1 ≤ x) && decide (x ≤ 1000)) = true ∧ sumI ((ks.take m).map nlI) ≤ most ∧ Grows W0 wv) (fun _ i _ => ks.length - (intOf i).toNat)
    case atStart => exact ⟨0, _, rfl, Nat.zero_le _, rfl, rfl, rfl, rfl, rfl, by simp [sumI]; omega, Grows.refl _⟩
    case round =>
      obtain ⟨m, wv, rfl, hm, rfl, rfl, ha0, ha1, ha2, ha3, hg⟩ := hrel
      have HG := Lib.hid hg
      have HA := Lib.hid (And.intro ha0 (And.intro ha1 ha2))
      obtain ⟨c0, c1, c2, c3⟩ := (HB0.out.grows hg).four
      have hlv := (HB0.out.grows hg).lt
      have hs0 : 0 ≤ sumI ((ks.take m).map nlI) := by rw [sum_nl]; omega
      by_cases hlt : m < ks.length
      · obtain ⟨b, off, x, ka, kn, kc, xa, xn, xc, rfl, hb, -, hx, hmem, -, -, e0, e1, e4, e3, hL⟩ := (Hin.out.grows (HG0.out.trans hg)).at_ hlt
        obtain ⟨b', off', y, rfl, hb', -, hy, hmy, f0⟩ := (Hiw.out.grows (HG0.out.trans hg)).at_ (i := m) (by omega)
        have HX := Lib.hid (And.intro hx hmem)
        have HY := Lib.hid (And.intro hy hmy)
        have HC := Lib.hid (IH.out x hmem _ _ wv (most - sumI ((ks.take m).map nlI)) (by omega) (by omega) hL)
        have HB2x := Lib.hid (HB2.out m x hx)
        have hsn : sumI ((ks.take (m + 1)).map nlI) = sumI ((ks.take m).map nlI) + nlI x := by rw [take_snoc hx, List.map_append, List.map_singleton, sumI_snoc]
        have HSN := Lib.hid hsn
        have hnx : 0 ≤ nlI x := by unfold nlI; omega
        clear ha0 ha1 ha2 hg hx hmem hy hmy hL hsn
        generalize sumI ((ks.take m).map nlI) = s at *
        by_cases hkx : okTree x = true ∧ nlI x ≤ most - s
        · have hlx : leafE x (most - s) = nlI x := if_pos hkx
          rw [hlx] at HC
          have HOX := Lib.hid hkx.1
          have hsm : s + nlI x ≤ most := by omega
          clear hkx hlx
          obtain ⟨nx', hnx'⟩ : ∃ n, nlI x = n := ⟨_, rfl⟩
          rw [hnx'] at HC hsm hnx
          have g0 : decide (nx' < 0) = false := by simpa using hnx
          by_cases q1 : x.kind = 2
          · have g1 : (x.kind == 2) = true := by simpa using q1
            have hr := HB1.out (by rw [all_out HX.out.2 (by simp [q1]), Bool.false_and])
            have HR := Lib.hid hr
            clear q1 hr
            go_upto_region 14 with (first | (go_at_call 41; (with_reducible refine (HC.out).mono ?_); rintro e w' ⟨rfl, h27, d27, rfl⟩))
            refine wp_region_grow (by kernel_rfl) (by kernel_rfl) ?_
            repeat (first | go_big_quiet_step ((fail)) | quiet_step ((fail)))
            refine wpQuiet_nil ?_
            rintro _ ⟨g22, rfl⟩
            go_wp2
            go_ret
            exact ⟨ret_int HR.out.symm, (HG0.out.trans HG.out).trans (by repeat' (first | (with_reducible exact Grows.refl _) | (with_reducible refine Grows.alloc ?_ _) | (with_reducible refine Grows.drew ?_) | (with_reducible refine Grows.ext ?_ _ _)))⟩
          · have g1 : (x.kind == 2) = false := by simpa using q1
            by_cases q2 : y < 1
            · have g2 : decide (y < 1) = true := by simpa using q2
              have hr := HB1.out (by rw [all_out HY.out.2 (by simp; omega), Bool.and_false])
              have HR := Lib.hid hr
              clear q1 q2 hr
              go_upto_region 14 with (first | (go_at_call 41; (with_reducible refine (HC.out).mono ?_); rintro e w' ⟨rfl, h27, d27, rfl⟩))
              refine wp_region_grow (by kernel_rfl) (by kernel_rfl) ?_
              repeat (first | go_big_quiet_step ((fail)) | quiet_step ((fail)))
              refine wpQuiet_nil ?_
              rintro _ ⟨g23, rfl⟩
              go_wp2
              go_ret
              exact ⟨ret_int HR.out.symm, (HG0.out.trans HG.out).trans (by repeat' (first | (with_reducible exact Grows.refl _) | (with_reducible refine Grows.alloc ?_ _) | (with_reducible refine Grows.drew ?_) | (with_reducible refine Grows.ext ?_ _ _)))⟩
            · have g2 : decide (y < 1) = false := by simpa using q2
              by_cases q3 : 1000 < y
              · have g3 : decide (1000 < y) = true := by simpa using q3
                have hr := HB1.out (by rw [all_out HY.out.2 (by simp; omega), Bool.and_false])
                have HR := Lib.hid hr
                clear q1 q2 q3 hr
                go_upto_region 14 with (first | (go_at_call 41; (with_reducible refine (HC.out).mono ?_); rintro e w' ⟨rfl, h27, d27, rfl⟩))
                refine wp_region_grow (by kernel_rfl) (by kernel_rfl) ?_
                repeat (first | go_big_quiet_step ((fail)) | quiet_step ((fail)))
                refine wpQuiet_nil ?_
                rintro _ ⟨g24, rfl⟩
                go_wp2
                go_ret
                exact ⟨ret_int HR.out.symm, (HG0.out.trans HG.out).trans (by repeat' (first | (with_reducible exact Grows.refl _) | (with_reducible refine Grows.alloc ?_ _) | (with_reducible refine Grows.drew ?_) | (with_reducible refine Grows.ext ?_ _ _)))⟩
              · have g3 : decide (1000 < y) = false := by simpa using q3
                have hr1 : (ks.take (m + 1)).all (fun x => decide (x.kind ≠ 2)) = true := by rw [all_snoc _ HX.out.1, HA.out.2.1]; simpa using q1
                have hr2 : (ws.take (m + 1)).all (fun x => decide (1 ≤ x) && decide (x ≤ 1000)) = true := by rw [all_snoc _ HY.out.1, HA.out.2.2]; simp; omega
                have hr0 : (ks.take (m + 1)).all okTree = true := by rw [all_snoc _ HX.out.1, HA.out.1, HOX.out]; rfl
                have HR := Lib.hid (And.intro hr0 (And.intro hr1 hr2))
                clear q1 q2 q3 hr0 hr1 hr2
                go_upto_region 14 with (first | (go_at_call 41; (with_reducible refine (HC.out).mono ?_); rintro e w' ⟨rfl, h27, d27, rfl⟩))
                refine wp_region_grow (by kernel_rfl) (by kernel_rfl) ?_
                repeat (first | go_big_quiet_step ((fail)) | quiet_step ((fail)))
                refine wpQuiet_nil ?_
                rintro _ ⟨g25, rfl⟩
                go_wp2
                go_roundw
                case rel => exact ⟨m + 1, _, rfl, by omega, by go_num, by rw [HSN.out, hnx'], HR.out.1, HR.out.2.1, HR.out.2.2, by rw [HSN.out, hnx']; exact hsm, HG.out.trans (by repeat' (first | (with_reducible exact Grows.refl _) | (with_reducible refine Grows.alloc ?_ _) | (with_reducible refine Grows.drew ?_) | (with_reducible refine Grows.ext ?_ _ _)))⟩
                case measure => simp [intOf]; omega
        · have hlx : leafE x (most - s) = -1 := if_neg hkx
          rw [hlx] at HC
          have HR := Lib.hid (HB2x.out hkx)
          clear hkx hlx
          go_upto_region 14 with (first | (go_at_call 41; (with_reducible refine (HC.out).mono ?_); rintro e w' ⟨rfl, h27, d27, rfl⟩))
          refine wp_region_grow (by kernel_rfl) (by kernel_rfl) ?_
          repeat (first | go_big_quiet_step ((fail)) | quiet_step ((fail)))
          refine wpQuiet_nil ?_
          rintro _ ⟨g26, rfl⟩
          go_wp2
          go_ret
          exact ⟨ret_int HR.out.symm, (HG0.out.trans HG.out).trans (by repeat' (first | (with_reducible exact Grows.refl _) | (with_reducible refine Grows.alloc ?_ _) | (with_reducible refine Grows.drew ?_) | (with_reducible refine Grows.ext ?_ _ _)))⟩
      · have e : m = ks.length := by omega
        subst e
        rw [List.take_length] at ha0 ha1 ha3
        rw [← hl, List.take_length] at ha2
        have HR := Lib.hid (HGD.out ha0 ha1 ha2 ha3)
        clear ha0 ha1 ha2 ha3 hg hs0
        go_wp2_with fail
        go_ret
        exact ⟨ret_int (by rw [HR.out, List.take_length]), HG0.out.trans HG.out⟩
  · clear hk1 ek2
    go_enter Try.func41, Try.ntmps41
    go_upto_region 1 with fail
    refine abs_worldM (fun W => Grows w W ∧ Blk W w.heap.size 25 #[.int .i64 3, .int .i64 0, .slice a ks.length cap, .slice wa ks.length wc]) ?_ ?_
    · exact boxes1 _ _
    rintro W0 ⟨hg0, hb0⟩
    obtain ⟨c0, c1, c2, c3⟩ := hb0.four
    have hl0 := hb0.lt
    have HB0 := Lib.hid hb0
    have HG0 := Lib.hid hg0
    clear hb0 hg0
    go_wp2
    go_loopw [5, 6] (fun t i wr => ∃ m : Nat, ∃ wv : World, wv = wr ∧ m ≤ ks.length ∧ i = .int .i64 m ∧ t = .int .i64 (sumI ((ks.take m).map nlI)) ∧ (ks.take m).all okTree = true ∧ (ks.take m).all (fun x => decide (x.kind ≠ 3)) = true ∧ (ws.take m).all (fun x => decide (1 ≤ x) && decide (x ≤ 1000)) = true ∧ sumI ((ks.take m).map nlI) ≤ most ∧ Grows W0 wv) (fun _ i _ => ks.length - (intOf i).toNat)
    case atStart => exact ⟨0, _, rfl, Nat.zero_le _, rfl, rfl, rfl, rfl, rfl, by simp [sumI]; omega, Grows.refl _⟩
    case round =>
      obtain ⟨m, wv, rfl, hm, rfl, rfl, ha0, ha1, ha2, ha3, hg⟩ := hrel
      have HG := Lib.hid hg
      have HA := Lib.hid (And.intro ha0 (And.intro ha1 ha2))
      obtain ⟨c0, c1, c2, c3⟩ := (HB0.out.grows hg).four
      have hlv := (HB0.out.grows hg).lt
      have hs0 : 0 ≤ sumI ((ks.take m).map nlI) := by rw [sum_nl]; omega
      by_cases hlt : m < ks.length
      · obtain ⟨b, off, x, ka, kn, kc, xa, xn, xc, rfl, hb, -, hx, hmem, -, -, e0, e1, e4, e3, hL⟩ := (Hin.out.grows (HG0.out.trans hg)).at_ hlt
        obtain ⟨b', off', y, rfl, hb', -, hy, hmy, f0⟩ := (Hiw.out.grows (HG0.out.trans hg)).at_ (i := m) (by omega)
        have HX := Lib.hid (And.intro hx hmem)
        have HY := Lib.hid (And.intro hy hmy)
        have HC := Lib.hid (IH.out x hmem _ _ wv (most - sumI ((ks.take m).map nlI)) (by omega) (by omega) hL)
        have HB2x := Lib.hid (HB2.out m x hx)
        have hsn : sumI ((ks.take (m + 1)).map nlI) = sumI ((ks.take m).map nlI) + nlI x := by rw [take_snoc hx, List.map_append, List.map_singleton, sumI_snoc]
        have HSN := Lib.hid hsn
        have hnx : 0 ≤ nlI x := by unfold nlI; omega
        clear ha0 ha1 ha2 hg hx hmem hy hmy hL hsn
        generalize sumI ((ks.take m).map nlI) = s at *
        by_cases hkx : okTree x = true ∧ nlI x ≤ most - s
        · have hlx : leafE x (most - s) = nlI x := if_pos hkx
          rw [hlx] at HC
          have HOX := Lib.hid hkx.1
          have hsm : s + nlI x ≤ most := by omega
          clear hkx hlx
          obtain ⟨nx', hnx'⟩ : ∃ n, nlI x = n := ⟨_, rfl⟩
          rw [hnx'] at HC hsm hnx
          have g0 : decide (nx' < 0) = false := by simpa using hnx
          by_cases q1 : x.kind = 3
          · have g1 : (x.kind == 3) = true := by simpa using q1
            have hr := HB1.out (by rw [all_out HX.out.2 (by simp [q1]), Bool.false_and])
            have HR := Lib.hid hr
            clear q1 hr
            go_upto_region 14 with (first | (go_at_call 41; (with_reducible refine (HC.out).mono ?_); rintro e w' ⟨rfl, h33, d33, rfl⟩))
            refine wp_region_grow (by kernel_rfl) (by kernel_rfl) ?_
            repeat (first | go_big_quiet_step ((fail)) | quiet_step ((fail)))
            refine wpQuiet_nil ?_
            rintro _ ⟨g28, rfl⟩
            go_wp2
            go_ret
            exact ⟨ret_int HR.out.symm, (HG0.out.trans HG.out).trans (by repeat' (first | (with_reducible exact Grows.refl _) | (with_reducible refine Grows.alloc ?_ _) | (with_reducible refine Grows.drew ?_) | (with_reducible refine Grows.ext ?_ _ _)))⟩
          · have g1 : (x.kind == 3) = false := by simpa using q1
            by_cases q2 : y < 1
            · have g2 : decide (y < 1) = true := by simpa using q2
              have hr := HB1.out (by rw [all_out HY.out.2 (by simp; omega), Bool.and_false])
              have HR := Lib.hid hr
              clear q1 q2 hr
              go_upto_region 14 with (first | (go_at_call 41; (with_reducible refine (HC.out).mono ?_); rintro e w' ⟨rfl, h33, d33, rfl⟩))
              refine wp_region_grow (by kernel_rfl) (by kernel_rfl) ?_
              repeat (first | go_big_quiet_step ((fail)) | quiet_step ((fail)))
              refine wpQuiet_nil ?_
              rintro _ ⟨g29, rfl⟩
              go_wp2
              go_ret
              exact ⟨ret_int HR.out.symm, (HG0.out.trans HG.out).trans (by repeat' (first | (with_reducible exact Grows.refl _) | (with_reducible refine Grows.alloc ?_ _) | (with_reducible refine Grows.drew ?_) | (with_reducible refine Grows.ext ?_ _ _)))⟩
            · have g2 : decide (y < 1) = false := by simpa using q2
              by_cases q3 : 1000 < y
              · have g3 : decide (1000 < y) = true := by simpa using q3
                have hr := HB1.out (by rw [all_out HY.out.2 (by simp; omega), Bool.and_false])
                have HR := Lib.hid hr
                clear q1 q2 q3 hr
                go_upto_region 14 with (first | (go_at_call 41; (with_reducible refine (HC.out).mono ?_); rintro e w' ⟨rfl, h33, d33, rfl⟩))
                refine wp_region_grow (by kernel_rfl) (by kernel_rfl) ?_
                repeat (first | go_big_quiet_step ((fail)) | quiet_step ((fail)))
                refine wpQuiet_nil ?_
                rintro _ ⟨g30, rfl⟩
                go_wp2
                go_ret
                exact ⟨ret_int HR.out.symm, (HG0.out.trans HG.out).trans (by repeat' (first | (with_reducible exact Grows.refl _) | (with_reducible refine Grows.alloc ?_ _) | (with_reducible refine Grows.drew ?_) | (with_reducible refine Grows.ext ?_ _ _)))⟩
              · have g3 : decide (1000 < y) = false := by simpa using q3
                have hr1 : (ks.take (m + 1)).all (fun x => decide (x.kind ≠ 3)) = true := by rw [all_snoc _ HX.out.1, HA.out.2.1]; simpa using q1
                have hr2 : (ws.take (m + 1)).all (fun x => decide (1 ≤ x) && decide (x ≤ 1000)) = true := by rw [all_snoc _ HY.out.1, HA.out.2.2]; simp; omega
                have hr0 : (ks.take (m + 1)).all okTree = true := by rw [all_snoc _ HX.out.1, HA.out.1, HOX.out]; rfl
                have HR := Lib.hid (And.intro hr0 (And.intro hr1 hr2))
                clear q1 q2 q3 hr0 hr1 hr2
                go_upto_region 14 with (first | (go_at_call 41; (with_reducible refine (HC.out).mono ?_); rintro e w' ⟨rfl, h33, d33, rfl⟩))
                refine wp_region_grow (by kernel_rfl) (by kernel_rfl) ?_
                repeat (first | go_big_quiet_step ((fail)) | quiet_step ((fail)))
                refine wpQuiet_nil ?_
                rintro _ ⟨g31, rfl⟩
                go_wp2
                go_roundw
                case rel => exact ⟨m + 1, _, rfl, by omega, by go_num, by rw [HSN.out, hnx'], HR.out.1, HR.out.2.1, HR.out.2.2, by rw [HSN.out, hnx']; exact hsm, HG.out.trans (by repeat' (first | (with_reducible exact Grows.refl _) | (with_reducible refine Grows.alloc ?_ _) | (with_reducible refine Grows.drew ?_) | (with_reducible refine Grows.ext ?_ _ _)))⟩
                case measure => simp [intOf]; omega
        · have hlx : leafE x (most - s) = -1 := if_neg hkx
          rw [hlx] at HC
          have HR := Lib.hid (HB2x.out hkx)
          clear hkx hlx
          go_upto_region 14 with (first | (go_at_call 41; (with_reducible refine (HC.out).mono ?_); rintro e w' ⟨rfl, h33, d33, rfl⟩))
          refine wp_region_grow (by kernel_rfl) (by kernel_rfl) ?_
          repeat (first | go_big_quiet_step ((fail)) | quiet_step ((fail)))
          refine wpQuiet_nil ?_
          rintro _ ⟨g32, rfl⟩
          go_wp2
          go_ret
          exact ⟨ret_int HR.out.symm, (HG0.out.trans HG.out).trans (by repeat' (first | (with_reducible exact Grows.refl _) | (with_reducible refine Grows.alloc ?_ _) | (with_reducible refine Grows.drew ?_) | (with_reducible refine Grows.ext ?_ _ _)))⟩
      · have e : m = ks.length := by omega
        subst e
        rw [List.take_length] at ha0 ha1 ha3
        rw [← hl, List.take_length] at ha2
        have HR := Lib.hid (HGD.out ha0 ha1 ha2 ha3)
        clear ha0 ha1 ha2 ha3 hg hs0
        go_wp2_with fail
        go_ret
        exact ⟨ret_int (by rw [HR.out, List.take_length]), HG0.out.trans HG.out⟩
end Go.Proofs.Ytbobpgegkmcapaa

