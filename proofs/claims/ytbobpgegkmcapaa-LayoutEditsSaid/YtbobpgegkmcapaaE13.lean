/-
  Walks: joined. Walks: without. Walks: Close whole.
-/
import Derived.Test.YtbobpgegkmcapaaRows
import Derived.Test.YtbobpgegkmcapaaE1
import Derived.Test.YtbobpgegkmcapaaE2
import Derived.Test.YtbobpgegkmcapaaE3
import Derived.Test.YtbobpgegkmcapaaE5
import Derived.Test.YtbobpgegkmcapaaE8
import Derived.Test.YtbobpgegkmcapaaE9
import Derived.WalkKit
import Derived.WalkSpells
import Derived.WalkLawsBesides
import Derived.Handy
import Derived.Laws.Rows
import Derived.Great.BuildSlice
import Derived.Deep.Heap
import Derived.IntWalk
import Derived.Lib.Hide
import Derived.Outline
import Derived.Deep.Light
import Derived.Deep.LoopGhost
import Derived.BigGuardPart
import Derived.BigQuiet
import Derived.Deep.QuietTactic
import Derived.Deep.RegionHeld3
import Derived.Deep.DeepCutAuto
import Derived.Deep.CutBlock
import Derived.OwnWalk
import Derived.Maps.AppendAt
import Derived.Test.YtbobpgegkmcapaaE10
namespace Go.Proofs.Ytbobpgegkmcapaa
open Go.RowKit

set_option maxRecDepth 100000 in
set_option maxHeartbeats 4000000 in
theorem joined_any (k p : Int) (ks : List Lay) (ws : List Int) (hk1 : ¬ k = 1) (hko : ∀ x ∈ ks, okTree x = true) (hl : ws.length = ks.length) (hne : ks ≠ []) (hP : ((ks.map panesL).flatten).length ≤ 1000) (S : Nat → Prop) (vk vw : Value) (w : World) (hS : ∀ b, w.heap.size ≤ b → S b) (h : LayAt S w (.mk k p ks ws) vk vw) :
    Calls Try.prog 78 #[.agg #[.int .i64 k, .int .i64 p, vk, vw]] w (fun e w' => LRes S w w' (joinL (.mk k p ks ws)) e) := by
  obtain ⟨P, hPe⟩ : ∃ z, ((ks.map panesL).flatten).length = z := ⟨_, rfl⟩
  have hj0 := JI.start (k := k) hko hl hne hPe
  have HJL := Lib.hid fun (qk : List Lay) (qw : List Int) (hq : joinU k (P + 1) 0 (ks, ws) = (qk, qw)) => joinL_of (p := p) (hPe ▸ hq)
  rw [hPe] at hP
  obtain ⟨a, cap, G, rfl, hcap, hmx, hin⟩ := h.kids.open_ rfl
  obtain ⟨wa, wc, rfl, hwc, -, hiw⟩ := h.ints.open_ rfl
  dsimp only [Lay.kids, Lay.ws, Lay.kind, Lay.pane] at hcap hmx hin hiw h ⊢
  have HK := Lib.hid h.but.kids
  have HI := Lib.hid h.but.ints
  have HJ := Lib.hid hj0
  have HS := Lib.hid hS
  dsimp only [Lay.kids, Lay.ws] at HK HI
  clear hPe hj0 hko hl hne hin hiw h hS
  go_enter Try.func78, Try.ntmps78
  go_upto_region 1 with fail
  refine abs_worldM (fun W => Grows w W ∧ Blk W w.heap.size 25 #[.int .i64 k, .int .i64 p, .slice a ks.length cap, .slice wa ws.length wc] ∧ Blk W (w.heap.size + 1) 25 #[.int .i64 0, .int .i64 0, .slice none 0 0, .slice none 0 0]) (boxes2 _ _ _) ?_
  rintro W0 ⟨hg0, hb0, hb1⟩
  have HB0 := Lib.hid hb0
  have HB1 := Lib.hid hb1
  have HG0 := Lib.hid hg0
  have hs0 : w.heap.size + 2 ≤ W0.heap.size := by have := hb1.lt; omega
  clear hb0 hb1 hg0
  go_wp2_with fail
  go_loopw [3] (fun i wr => ∃ (m : Nat) (wv : World) (qk : List Lay) (qw : List Int) (a : Option Addr) (c : Nat) (wa : Option Addr) (wc : Nat), wv = wr ∧ i = .int .i64 m ∧ JI k P m ks ws qk qw ∧ Blk wv w.heap.size 25 #[.int .i64 k, .int .i64 p, .slice a qk.length c, .slice wa qw.length wc] ∧ Blk wv (w.heap.size + 1) 25 #[.int .i64 0, .int .i64 0, .slice none 0 0, .slice none 0 0] ∧ KidsAt (But w.heap.size S) wv (.slice a qk.length c) qk ∧ IntsAt (But w.heap.size S) wv (.slice wa qw.length wc) qw ∧ Grows w wv) (fun i _ => P + 1 - (intOf i).toNat)
  case atStart => exact ⟨0, _, ks, ws, a, cap, wa, wc, rfl, rfl, HJ.out, HB0.out, HB1.out, HK.out.grows HG0.out, HI.out.grows HG0.out, HG0.out⟩
  case round =>
    clear HB0 HB1 HG0 HK HI HJ hcap hmx hwc
    obtain ⟨m, wv, qk, qw, a, cap, wa, wc, rfl, rfl, hji, hb0, hb1, hki, hii, hg⟩ := hrel
    have hm := hji.le
    have hqP := hji.len_le
    have hqw := hji.len
    have hsz : w.heap.size + 2 ≤ wv.heap.size := by have := hb1.lt; omega
    obtain ⟨a0, a1, a2, a3⟩ := hb0.four
    have hl0 := hb0.lt
    have HJI := Lib.hid hji
    have HB0 := Lib.hid hb0
    have HB1 := Lib.hid hb1
    have HKI := Lib.hid hki
    have HII := Lib.hid hii
    have HG := Lib.hid hg
    have HQW := Lib.hid hqw
    clear hji hb0 hb1 hii hg hqw
    by_cases hlt : m < qk.length
    · obtain ⟨a', cap', G, e, hcap, hmx, hin⟩ := hki.open_ rfl
      injection e with e1 e2 e3
      subst e1 e3
      obtain ⟨b, off, x, ka, kn, kc, xa, xn, xc, rfl, hb, -, hx, hmem, hkn, hxn, e0, e1, e4, e3, hL⟩ := hin.at_ hlt
      have HX := Lib.hid hx
      have HL := Lib.hid hL
      have HN := Lib.hid (And.intro hkn hxn)
      clear hki hin hx hmem hL hkn hxn
      by_cases hkk : x.kind = k
      · have kk : (x.kind == k) = true := by simpa using hkk
        have HKK := Lib.hid hkk
        clear hkk
        obtain ⟨x1, x2, x3, -, -⟩ := HJI.out.kid HX.out hP HKK.out hk1
        go_upto_region 6 with fail
        refine abs_worldM (fun W' => Grows wv W' ∧ Blk W' wv.heap.size 25 #[.int .i64 x.kind, .int .i64 x.pane, .slice ka kn kc, .slice xa xn xc]) ⟨(by repeat' (first | (with_reducible exact Grows.refl _) | (with_reducible refine Grows.alloc ?_ _) | (with_reducible refine Grows.drew ?_) | (with_reducible refine Grows.ext ?_ _ _))), Blk.new (by simp)⟩ ?_
        rintro W1 ⟨hg1, hbx⟩
        have HBX := Lib.hid hbx
        have HG1 := Lib.hid hg1
        have hs1 := hg1.size
        obtain ⟨e0, e1, e4, e3⟩ := hbx.four
        obtain ⟨a0, a1, a2, a3⟩ := (HB0.out.grows hg1).four
        have hl0 := (HB0.out.grows hg1).lt
        have hlx := hbx.lt
        have HKW := Lib.hid fun W' (g : Grows W1 W') => with_kidsJ (S := But w.heap.size S) qk x.kids m 1 m 1 rfl rfl (.slice (some ⟨b, off, none⟩) qk.length cap) (.slice ka kn kc) W' (but_fresh HS.out (by have := g.size; omega)) HJI.out.ne (by omega) (by omega) (by omega) (HKI.out.grows (hg1.trans g)) (HL.out.kids.grows (hg1.trans g))
        have HIW := Lib.hid fun W' (g : Grows W1 W') => with_intsJ (S := But w.heap.size S) qw x.ws m 1 m 1 rfl rfl (.slice wa qw.length wc) (.slice xa xn xc) W' (but_fresh HS.out (by have := g.size; omega)) (by rintro rfl; have := HQW.out; simp at this; omega) (by rw [HQW.out]; omega) (by rw [HQW.out]; omega) (by omega) (HII.out.grows (hg1.trans g)) (HL.out.ints.grows (hg1.trans g))
        clear hg1 hbx x1 x2 x3
        have hgS := Grows.refl W1
        refine wp_region_B [13, 15] (fun w' => Same (fun b => b ≠ w.heap.size) W1 w') (fun w' => Grows W1 w') (by kernel_rfl) ⟨(Grows.same (by exact hgS.trans (by repeat' (first | (with_reducible exact hgc) | (with_reducible exact Grows.refl _) | (with_reducible refine Grows.alloc ?_ _) | (with_reducible refine Grows.drew ?_) | (with_reducible refine Grows.ext ?_ _ _)))) _), (by exact hgS.trans (by repeat' (first | (with_reducible exact hgc) | (with_reducible exact Grows.refl _) | (with_reducible refine Grows.alloc ?_ _) | (with_reducible refine Grows.drew ?_) | (with_reducible refine Grows.ext ?_ _ _))))⟩ (fun hHeld => ?_)
        refine abs_anyB (fun W' => Grows W1 W' ∧ True) ⟨(by repeat' (first | (with_reducible exact hgc) | (with_reducible exact Grows.refl _) | (with_reducible refine Grows.alloc ?_ _) | (with_reducible refine Grows.drew ?_) | (with_reducible refine Grows.ext ?_ _ _))), trivial⟩ ?_
        clear hHeld
        rintro X226 ⟨hgn, hex⟩
        have hgS := hgS.trans hgn
        have hsS := hgS.size
        clear hgn hex
        have hHeld := And.intro (Grows.same (hgS) (fun b => b ≠ w.heap.size)) hgS
        refine anyB_takeT (i := 0) (v := ?v227_0) rfl (by kernel_rfl) (by kernel_rfl) (by kernel_rfl) (by kernel_rfl) (fun _ _ _ h => h) (Or.inl ⟨by kernel_rfl, ?y227_0⟩) hHeld.1 (fun _ => hHeld.2) ?r227_0
        case y227_0 => ((intro w hTw; obtain ⟨e0, e1, e4, e3⟩ := (HBX.out.same hTw (by show _ ≠ _; omega)).four; have hlx := (HBX.out.same hTw (by show _ ≠ _; omega)).lt; clear hTw; go_simp); (try go_ints); (try with_reducible rfl))
        try simp only [Act.put, List.getElem_toArray, List.getElem_cons_zero, List.setIfInBounds_toArray, List.set_cons_zero, List.set_cons_succ]
        refine anyB_take (i := 1) (v := ?v228_1) rfl (by kernel_rfl) (by kernel_rfl) (by kernel_rfl) (by kernel_rfl) (fun _ _ _ h => h) (Or.inl ⟨by kernel_rfl, ?y228_1⟩) (by kernel_rfl) hHeld ?r228_1
        case y228_1 => ((rintro w ⟨hTw, hSw⟩; obtain ⟨e0, e1, e4, e3⟩ := (HBX.out.same hTw (by show _ ≠ _; omega)).four; have hlx := (HBX.out.same hTw (by show _ ≠ _; omega)).lt; obtain ⟨a0, a1, a2, a3⟩ := ((HB0.out.grows HG1.out).grows hSw).four; have hl0 := ((HB0.out.grows HG1.out).grows hSw).lt; clear hSw hTw; go_simp); (try go_ints); (try with_reducible rfl))
        try simp only [Act.put, List.getElem_toArray, List.getElem_cons_succ, List.getElem_cons_zero, List.setIfInBounds_toArray, List.set_cons_zero, List.set_cons_succ]
        refine anyB_takeT (i := 2) (v := ?v229_2) rfl (by kernel_rfl) (by kernel_rfl) (by kernel_rfl) (by kernel_rfl) (fun _ _ _ h => h) (Or.inl ⟨by kernel_rfl, ?y229_2⟩) hHeld.1 (fun _ => hHeld.2) ?r229_2
        case y229_2 => ((intro w hTw; obtain ⟨e0, e1, e4, e3⟩ := (HBX.out.same hTw (by show _ ≠ _; omega)).four; have hlx := (HBX.out.same hTw (by show _ ≠ _; omega)).lt; clear hTw; go_simp); (try go_ints); (try with_reducible rfl))
        try simp only [Act.put, List.getElem_toArray, List.getElem_cons_succ, List.getElem_cons_zero, List.setIfInBounds_toArray, List.set_cons_zero, List.set_cons_succ]
        refine anyB_takeT (i := 3) (v := ?v230_3) rfl (by kernel_rfl) (by kernel_rfl) (by kernel_rfl) (by kernel_rfl) (fun _ _ _ h => h) (Or.inl ⟨by kernel_rfl, ?y230_3⟩) hHeld.1 (fun _ => hHeld.2) ?r230_3
        case y230_3 => ((intro w hTw; obtain ⟨e0, e1, e4, e3⟩ := (HBX.out.same hTw (by show _ ≠ _; omega)).four; have hlx := (HBX.out.same hTw (by show _ ≠ _; omega)).lt; clear hTw; go_simp); (try go_ints); (try with_reducible rfl))
        try simp only [Act.put, List.getElem_toArray, List.getElem_cons_succ, List.getElem_cons_zero, List.setIfInBounds_toArray, List.set_cons_zero, List.set_cons_succ]
        refine anyB_takeT (i := 4) (v := ?v231_4) rfl (by kernel_rfl) (by kernel_rfl) (by kernel_rfl) (by kernel_rfl) (fun _ _ _ h => h) (Or.inl ⟨by kernel_rfl, ?y231_4⟩) hHeld.1 (fun _ => hHeld.2) ?r231_4
        case y231_4 => ((intro w hTw; obtain ⟨e0, e1, e4, e3⟩ := (HBX.out.same hTw (by show _ ≠ _; omega)).four; have hlx := (HBX.out.same hTw (by show _ ≠ _; omega)).lt; clear hTw; go_simp); (try go_ints); (try with_reducible rfl))
        try simp only [Act.put, List.getElem_toArray, List.getElem_cons_succ, List.getElem_cons_zero, List.setIfInBounds_toArray, List.set_cons_zero, List.set_cons_succ]
        refine anyB_takeT (i := 6) (v := ?v232_6) rfl (by kernel_rfl) (by kernel_rfl) (by kernel_rfl) (by kernel_rfl) (fun _ _ _ h => h) (Or.inl ⟨by kernel_rfl, ?y232_6⟩) hHeld.1 (fun _ => hHeld.2) ?r232_6
        case y232_6 => ((intro w hTw; obtain ⟨e0, e1, e4, e3⟩ := (HBX.out.same hTw (by show _ ≠ _; omega)).four; have hlx := (HBX.out.same hTw (by show _ ≠ _; omega)).lt; clear hTw; go_simp); (try go_ints); (try with_reducible rfl))
        try simp only [Act.put, List.getElem_toArray, List.getElem_cons_succ, List.getElem_cons_zero, List.setIfInBounds_toArray, List.set_cons_zero, List.set_cons_succ]
        refine anyB_take (i := 7) (v := ?v233_7) rfl (by kernel_rfl) (by kernel_rfl) (by kernel_rfl) (by kernel_rfl) (fun _ _ _ h => h) (Or.inl ⟨by kernel_rfl, ?y233_7⟩) (by kernel_rfl) hHeld ?r233_7
        case y233_7 => ((rintro w ⟨hTw, hSw⟩; obtain ⟨e0, e1, e4, e3⟩ := (HBX.out.same hTw (by show _ ≠ _; omega)).four; have hlx := (HBX.out.same hTw (by show _ ≠ _; omega)).lt; obtain ⟨a0, a1, a2, a3⟩ := ((HB0.out.grows HG1.out).grows hSw).four; have hl0 := ((HB0.out.grows HG1.out).grows hSw).lt; clear hSw hTw; go_simp); (try go_ints); (try with_reducible rfl))
        try simp only [Act.put, List.getElem_toArray, List.getElem_cons_succ, List.getElem_cons_zero, List.setIfInBounds_toArray, List.set_cons_zero, List.set_cons_succ]
        refine anyB_takeT (i := 8) (v := ?v234_8) rfl (by kernel_rfl) (by kernel_rfl) (by kernel_rfl) (by kernel_rfl) (fun _ _ _ h => h) (Or.inl ⟨by kernel_rfl, ?y234_8⟩) hHeld.1 (fun _ => hHeld.2) ?r234_8
        case y234_8 => ((intro w hTw; obtain ⟨e0, e1, e4, e3⟩ := (HBX.out.same hTw (by show _ ≠ _; omega)).four; have hlx := (HBX.out.same hTw (by show _ ≠ _; omega)).lt; clear hTw; go_simp); (try go_ints); (try with_reducible rfl))
        try simp only [Act.put, List.getElem_toArray, List.getElem_cons_succ, List.getElem_cons_zero, List.setIfInBounds_toArray, List.set_cons_zero, List.set_cons_succ]
        refine anyB_takeT (i := 9) (v := ?v235_9) rfl (by kernel_rfl) (by kernel_rfl) (by kernel_rfl) (by kernel_rfl) (fun _ _ _ h => h) (Or.inl ⟨by kernel_rfl, ?y235_9⟩) hHeld.1 (fun _ => hHeld.2) ?r235_9
        case y235_9 => ((intro w hTw; obtain ⟨e0, e1, e4, e3⟩ := (HBX.out.same hTw (by show _ ≠ _; omega)).four; have hlx := (HBX.out.same hTw (by show _ ≠ _; omega)).lt; clear hTw; go_simp); (try go_ints); (try with_reducible rfl))
        try simp only [Act.put, List.getElem_toArray, List.getElem_cons_succ, List.getElem_cons_zero, List.setIfInBounds_toArray, List.set_cons_zero, List.set_cons_succ]
        refine anyB_takeT (i := 10) (v := ?v236_10) rfl (by kernel_rfl) (by kernel_rfl) (by kernel_rfl) (by kernel_rfl) (fun _ _ _ h => h) (Or.inl ⟨by kernel_rfl, ?y236_10⟩) hHeld.1 (fun _ => hHeld.2) ?r236_10
        case y236_10 => ((intro w hTw; obtain ⟨e0, e1, e4, e3⟩ := (HBX.out.same hTw (by show _ ≠ _; omega)).four; have hlx := (HBX.out.same hTw (by show _ ≠ _; omega)).lt; clear hTw; go_simp); (try go_ints); (try with_reducible rfl))
        try simp only [Act.put, List.getElem_toArray, List.getElem_cons_succ, List.getElem_cons_zero, List.setIfInBounds_toArray, List.set_cons_zero, List.set_cons_succ]
        refine anyB_ready (i := 5) (by kernel_rfl) rfl (fun K hK => ?_)
        simp only [List.getElem_toArray, List.getElem_cons_succ, List.getElem_cons_zero]
        go_simp
        (go_at_call 65; (go_must (with_reducible refine (HKW.out _ hgS).mono ?_)); rintro e w7 ⟨v7, rfl, hv7, hgc⟩; obtain ⟨a7, c7, rfl, -⟩ := hv7.shape rfl)
        refine hK.out _ _ ⟨?_, ?_⟩ ?_
        · ((try dsimp only); exact Grows.same (hgS.trans (by repeat' (first | (with_reducible exact hgc) | (with_reducible exact Grows.refl _) | (with_reducible refine Grows.alloc ?_ _) | (with_reducible refine Grows.drew ?_) | (with_reducible refine Grows.ext ?_ _ _)))) _)
        · ((try dsimp only); exact hgS.trans (by repeat' (first | (with_reducible exact hgc) | (with_reducible exact Grows.refl _) | (with_reducible refine Grows.alloc ?_ _) | (with_reducible refine Grows.drew ?_) | (with_reducible refine Grows.ext ?_ _ _))))
        clear hK K hHeld
        intro hHeld
        try simp only [Act.put, List.getElem_toArray, List.getElem_cons_succ, List.getElem_cons_zero, List.setIfInBounds_toArray, List.set_cons_zero, List.set_cons_succ]
        refine abs_anyB (fun W' => Grows X226 W' ∧ KidsAt (But w.heap.size S) W' (.slice a7 (withL qk m 1 x.kids).length c7) (withL qk m 1 x.kids)) ⟨(by repeat' (first | (with_reducible exact hgc) | (with_reducible exact Grows.refl _) | (with_reducible refine Grows.alloc ?_ _) | (with_reducible refine Grows.drew ?_) | (with_reducible refine Grows.ext ?_ _ _))), hv7⟩ ?_
        clear hHeld
        rintro X237 ⟨hgn, hex⟩
        have HV7 := Lib.hid hex
        have hgS := hgS.trans hgn
        have hsS := hgS.size
        clear hgn hex
        have hHeld := And.intro (Grows.same (hgS) (fun b => b ≠ w.heap.size)) hgS
        refine anyB_takeT (i := 12) (v := ?v238_12) rfl (by kernel_rfl) (by kernel_rfl) (by kernel_rfl) (by kernel_rfl) (fun _ _ _ h => h) (Or.inl ⟨by kernel_rfl, ?y238_12⟩) hHeld.1 (fun _ => hHeld.2) ?r238_12
        case y238_12 => ((intro w hTw; obtain ⟨e0, e1, e4, e3⟩ := (HBX.out.same hTw (by show _ ≠ _; omega)).four; have hlx := (HBX.out.same hTw (by show _ ≠ _; omega)).lt; clear hTw; go_simp); (try go_ints); (try with_reducible rfl))
        try simp only [Act.put, List.getElem_toArray, List.getElem_cons_succ, List.getElem_cons_zero, List.setIfInBounds_toArray, List.set_cons_zero, List.set_cons_succ]
        refine anyB_ready (i := 11) (by kernel_rfl) rfl (fun K hK => ?_)
        simp only [List.getElem_toArray, List.getElem_cons_succ, List.getElem_cons_zero]
        go_simp
        (go_at_call 59; (go_must (with_reducible refine (HIW.out _ hgS).mono ?_)); rintro e w8 ⟨v8, rfl, hv8, hgc⟩; obtain ⟨a8, c8, rfl, -⟩ := hv8.shape rfl)
        refine hK.out _ _ ⟨?_, ?_⟩ ?_
        · ((try dsimp only); exact Grows.same (hgS.trans (by repeat' (first | (with_reducible exact hgc) | (with_reducible exact Grows.refl _) | (with_reducible refine Grows.alloc ?_ _) | (with_reducible refine Grows.drew ?_) | (with_reducible refine Grows.ext ?_ _ _)))) _)
        · ((try dsimp only); exact hgS.trans (by repeat' (first | (with_reducible exact hgc) | (with_reducible exact Grows.refl _) | (with_reducible refine Grows.alloc ?_ _) | (with_reducible refine Grows.drew ?_) | (with_reducible refine Grows.ext ?_ _ _))))
        clear hK K hHeld
        intro hHeld
        try simp only [Act.put, List.getElem_toArray, List.getElem_cons_succ, List.getElem_cons_zero, List.setIfInBounds_toArray, List.set_cons_zero, List.set_cons_succ]
        refine abs_anyB (fun W' => Grows X237 W' ∧ IntsAt (But w.heap.size S) W' (.slice a8 (withL qw m 1 x.ws).length c8) (withL qw m 1 x.ws)) ⟨(by repeat' (first | (with_reducible exact hgc) | (with_reducible exact Grows.refl _) | (with_reducible refine Grows.alloc ?_ _) | (with_reducible refine Grows.drew ?_) | (with_reducible refine Grows.ext ?_ _ _))), hv8⟩ ?_
        clear hHeld
        rintro X239 ⟨hgn, hex⟩
        have HV7 := Lib.hid (HV7.out.grows hgn)
        have HV8 := Lib.hid hex
        have hgS := hgS.trans hgn
        have hsS := hgS.size
        clear hgn hex
        have hHeld := And.intro (Grows.same (hgS) (fun b => b ≠ w.heap.size)) hgS
        refine anyB_over (i := 13) (by kernel_rfl) rfl (by kernel_rfl) (fun K hK => ?_)
        simp only [List.getElem_toArray, List.getElem_cons_succ, List.getElem_cons_zero]
        obtain ⟨a0, a1, a2, a3⟩ := ((HB0.out.grows HG1.out).grows hgS).four
        obtain ⟨f0, f1, f2, f3⟩ := ((HB0.out.grows HG1.out).grows hgS).four'
        have hl0 := ((HB0.out.grows HG1.out).grows hgS).lt
        go_simp
        skip
        refine hK.out _ _ ?_ ?_
        · ((try dsimp only); exact (by repeat' (first | (with_reducible exact Grows.same hgS _) | (with_reducible exact Grows.same (hgS.trans hgc) _) | (with_reducible refine Same.trans ?_ (same_set (fun h => Ne.irrefl h))))))
        clear hK K hHeld
        intro hHeld
        try simp only [Act.put, List.getElem_toArray, List.getElem_cons_succ, List.getElem_cons_zero, List.setIfInBounds_toArray, List.set_cons_zero, List.set_cons_succ]
        refine anyB_takeT (i := 14) (v := ?v240_14) rfl (by kernel_rfl) (by kernel_rfl) (by kernel_rfl) (by kernel_rfl) (fun _ _ _ h => h) (Or.inl ⟨by kernel_rfl, ?y240_14⟩) hHeld (outB_no (by kernel_rfl)) ?r240_14
        case y240_14 => ((intro w hTw; obtain ⟨e0, e1, e4, e3⟩ := (HBX.out.same hTw (by show _ ≠ _; omega)).four; have hlx := (HBX.out.same hTw (by show _ ≠ _; omega)).lt; clear hTw; go_simp); (try go_ints); (try with_reducible rfl))
        try simp only [Act.put, List.getElem_toArray, List.getElem_cons_succ, List.getElem_cons_zero, List.setIfInBounds_toArray, List.set_cons_zero, List.set_cons_succ]
        refine anyB_over (i := 15) (by kernel_rfl) rfl (by kernel_rfl) (fun K hK => ?_)
        simp only [List.getElem_toArray, List.getElem_cons_succ, List.getElem_cons_zero]
        go_simp
        skip
        refine hK.out _ _ ?_ ?_
        · ((try dsimp only); exact (by repeat' (first | (with_reducible exact Grows.same hgS _) | (with_reducible exact Grows.same (hgS.trans hgc) _) | (with_reducible refine Same.trans ?_ (same_set (fun h => Ne.irrefl h))))))
        clear hK K hHeld
        intro hHeld
        try simp only [Act.put, List.getElem_toArray, List.getElem_cons_succ, List.getElem_cons_zero, List.setIfInBounds_toArray, List.set_cons_zero, List.set_cons_succ]
        refine anyB_done (by kernel_rfl) ?_ _
        try clear hHeld
        refine abs_exit (fun W' => Grows w W' ∧ Blk W' w.heap.size 25 #[.int .i64 k, .int .i64 p, .slice a7 (withL qk m 1 x.kids).length c7, .slice a8 (withL qw m 1 x.ws).length c8] ∧ Blk W' (w.heap.size + 1) 25 #[.int .i64 0, .int .i64 0, .slice none 0 0, .slice none 0 0] ∧ KidsAt (But w.heap.size S) W' (.slice a7 (withL qk m 1 x.kids).length c7) (withL qk m 1 x.kids) ∧ IntsAt (But w.heap.size S) W' (.slice a8 (withL qw m 1 x.ws).length c8) (withL qw m 1 x.ws)) ⟨(((HG.out.trans HG1.out).trans hgS).setCell (Nat.le_refl _) _).setCell (Nat.le_refl _) _, ((((HB0.out.grows HG1.out).grows hgS).set 2 _).set 3 _), ((((HB1.out.grows HG1.out).grows hgS).other (by omega)).other (by omega)), HV7.out.same (but_set0.trans but_set0), HV8.out.same (but_set0.trans but_set0)⟩ ?_
        rintro W9 ⟨hg9, hb9, hb10, hk9, hi9⟩
        have H9 := Lib.hid (And.intro hg9 (And.intro hb9 (And.intro hb10 (And.intro hk9 hi9))))
        clear hg9 hb9 hb10 hk9 hi9
        go_wp2_with fail
        go_roundw
        case rel => exact ⟨m + 1, _, _, _, _, _, _, _, rfl, by go_num, HJI.out.splice HX.out hP HKK.out hk1, H9.out.2.1, H9.out.2.2.1, H9.out.2.2.2.1, H9.out.2.2.2.2, H9.out.1⟩
        case measure => simp [intOf]; omega
      · have kk : (x.kind == k) = false := by simpa using hkk
        have HKK := Lib.hid hkk
        clear hkk
        go_wp2_with fail
        go_roundw
        case rel => exact ⟨m + 1, _, qk, qw, _, _, _, _, rfl, by go_num, HJI.out.stay HX.out HKK.out, HB0.out.grows (by repeat' (first | (with_reducible exact Grows.refl _) | (with_reducible refine Grows.alloc ?_ _) | (with_reducible refine Grows.drew ?_) | (with_reducible refine Grows.ext ?_ _ _))), HB1.out.grows (by repeat' (first | (with_reducible exact Grows.refl _) | (with_reducible refine Grows.alloc ?_ _) | (with_reducible refine Grows.drew ?_) | (with_reducible refine Grows.ext ?_ _ _))), HKI.out.grows (by repeat' (first | (with_reducible exact Grows.refl _) | (with_reducible refine Grows.alloc ?_ _) | (with_reducible refine Grows.drew ?_) | (with_reducible refine Grows.ext ?_ _ _))), HII.out.grows (by repeat' (first | (with_reducible exact Grows.refl _) | (with_reducible refine Grows.alloc ?_ _) | (with_reducible refine Grows.drew ?_) | (with_reducible refine Grows.ext ?_ _ _))), HG.out.trans (by repeat' (first | (with_reducible exact Grows.refl _) | (with_reducible refine Grows.alloc ?_ _) | (with_reducible refine Grows.drew ?_) | (with_reducible refine Grows.ext ?_ _ _)))⟩
        case measure => simp [intOf]; omega
    · have e : m = qk.length := by omega
      subst e
      obtain ⟨b0, b1, b2, b3⟩ := HB1.out.four
      obtain ⟨d0, d1, d2, d3⟩ := HB1.out.four'
      have hl1 := HB1.out.lt
      have hR := HJL.out _ _ (HJI.out.done rfl)
      by_cases h1 : qk.length = 1
      · obtain ⟨a', cap', G, e, hcap, hmx, hin⟩ := hki.open_ h1
        injection e with e1 e2 e3
        subst e1 e3
        obtain ⟨b, off, x, ka, kn, kc, xa, xn, xc, rfl, hb, -, hx, hmem, hkn, hxn, e0, e1, e4, e3, hL⟩ := hin.at_ (i := 0) (by rw [h1]; decide)
        simp only [Nat.zero_mul, Nat.add_zero] at e0 e1 e4 e3
        have HR := Lib.hid (hR.trans ((if_pos h1).trans (by rw [hx]; rfl)) : joinL (.mk k p ks ws) = x)
        have HL := Lib.hid hL
        clear hki hin hx hmem hL hkn hxn hR
        generalize hn : qk.length = n at *
        have HN := Lib.hid hn
        clear hn
        subst h1
        go_wp2_with fail
        refine ret_cell (t := 25) (n := w.heap.size + 1) (cs := #[.int .i64 x.kind, .int .i64 x.pane, .slice ka kn kc, .slice xa xn xc]) rfl rfl ?_ Try.underlying25 rfl (by kernel_rfl) rfl ?_
        · exact HB1.out.set4
        · rw [HR.out]
          exact ⟨_, _, rfl, (HL.out.same (but_set4 _ _ _ _)).unbut, HG.out.set4 (by omega) _ _ _ _⟩
      · have HR := Lib.hid (hR.trans (if_neg h1))
        have e1 : ((qk.length : Int) == 1) = false := by simp; omega
        have HL := Lib.hid (LayAt_mk.2 ⟨HII.out, hki⟩ : LayAt (But w.heap.size S) wv (.mk k p qk qw) _ _)
        clear hki hR h1
        go_wp2_with fail
        refine ret_cell (t := 25) (n := w.heap.size + 1) (cs := #[.int .i64 k, .int .i64 p, .slice a qk.length cap, .slice wa qw.length wc]) rfl rfl ?_ Try.underlying25 rfl (by kernel_rfl) rfl ?_
        · exact HB1.out.set4
        · rw [HR.out]
          exact ⟨_, _, rfl, (HL.out.same (but_set4 _ _ _ _)).unbut, HG.out.set4 (by omega) _ _ _ _⟩
end Go.Proofs.Ytbobpgegkmcapaa

namespace Go.Proofs.Ytbobpgegkmcapaa
open Go.RowKit

theorem drop_at {pane k p : Int} {ks : List Lay} {ws : List Int} {m : Nat} {x : Lay} (hx : ks[m]? = some x) (hp : pane ∈ panesL x) (hn : ∀ (j : Nat) (y : Lay), j < m → ks[j]? = some y → pane ∉ panesL y) :
    (x.kind = 1 → dropL pane (.mk k p ks ws) = joinL (.mk k p (withL ks m 1 []) (withL ws m 1 []))) ∧ (¬ x.kind = 1 → dropL pane (.mk k p ks ws) = joinL (.mk k p (withL ks m 1 [dropL pane x]) ws)) := by
  rw [dropL_mk, holdI_some hx hp hn]
  simp only [hx]
  exact ⟨fun h => if_pos h, fun h => if_neg h⟩
theorem no_snoc {pane : Int} {ks : List Lay} {m : Nat} {x : Lay} (hn : ∀ (j : Nat) (y : Lay), j < m → ks[j]? = some y → pane ∉ panesL y) (hx : ks[m]? = some x) (hp : pane ∉ panesL x) : ∀ (j : Nat) (y : Lay), j < m + 1 → ks[j]? = some y → pane ∉ panesL y := by
  intro j y hj hy
  rcases Nat.lt_succ_iff_lt_or_eq.1 hj with hj | rfl
  · exact hn j y hj hy
  · obtain rfl : x = y := Option.some.inj (hx.symm.trans hy)
    exact hp
theorem drop_none {pane k p : Int} {ks : List Lay} {ws : List Int} (hn : ∀ (j : Nat) (y : Lay), ks[j]? = some y → pane ∉ panesL y) : dropL pane (.mk k p ks ws) = .mk k p ks ws := by
  rw [dropL_mk, holdI_none hn]
theorem drop_leaf {k p : Int} {ks : List Lay} {ws : List Int} {m : Nat} {x : Lay} (hok : okTree (.mk k p ks ws) = true) (hk1 : ¬ k = 1) (hP : (panesL (.mk k p ks ws)).length ≤ 1000) (hx : ks[m]? = some x) :
    (∀ y ∈ withL ks m 1 [], okTree y = true) ∧ (withL ws m 1 []).length = (withL ks m 1 []).length ∧ withL ks m 1 [] ≠ [] ∧ (((withL ks m 1 []).map panesL).flatten).length ≤ 1000 := by
  obtain ⟨hk2, hp0, h2, hl, hkk, hw, hko⟩ := split_facts hok hk1
  rw [panesL_mk, if_neg hk1] at hP
  obtain ⟨A, B, rfl, rfl⟩ := cut_ex hx
  rw [flat_cut] at hP
  simp only [List.length_append, List.length_cons] at hP h2 hl
  rw [with_cut1]
  simp only [List.append_nil]
  refine ⟨fun y hy => hko y (by simp only [List.mem_append, List.mem_cons] at hy ⊢; exact hy.elim .inl fun h => .inr (.inr h)), ?_, fun e => ?_, ?_⟩
  · simp only [withL, List.length_append, List.length_take, List.length_drop, List.length_nil]
    omega
  · have := congrArg List.length e
    simp only [List.length_append, List.length_nil] at this
    omega
  · simp only [List.map_append, List.flatten_append, List.length_append]
    omega
theorem drop_in {k p : Int} {ks : List Lay} {ws : List Int} {m : Nat} {x y : Lay} (hok : okTree (.mk k p ks ws) = true) (hk1 : ¬ k = 1) (hP : (panesL (.mk k p ks ws)).length ≤ 1000) (hx : ks[m]? = some x) (hy : okTree y = true) (hyl : (panesL y).length ≤ (panesL x).length) :
    (∀ z ∈ withL ks m 1 [y], okTree z = true) ∧ ws.length = (withL ks m 1 [y]).length ∧ withL ks m 1 [y] ≠ [] ∧ (((withL ks m 1 [y]).map panesL).flatten).length ≤ 1000 := by
  obtain ⟨hk2, hp0, h2, hl, hkk, hw, hko⟩ := split_facts hok hk1
  rw [panesL_mk, if_neg hk1] at hP
  obtain ⟨A, B, rfl, rfl⟩ := cut_ex hx
  rw [flat_cut] at hP
  simp only [List.length_append, List.length_cons] at hP h2 hl
  rw [with_cut1]
  refine ⟨fun z hz => ?_, by simp only [List.length_append, List.length_cons, List.length_nil]; omega, fun e => ?_, ?_⟩
  · simp only [List.mem_append, List.mem_singleton] at hz
    rcases hz with (hz | rfl) | hz
    · exact hko z (by simp [hz])
    · exact hy
    · exact hko z (by simp [hz])
  · have := congrArg List.length e
    simp at this
  · simp only [List.map_append, List.map_cons, List.map_nil, List.flatten_append, List.flatten_cons, List.flatten_nil, List.length_append, List.append_nil]
    omega
set_option maxRecDepth 100000 in
set_option maxHeartbeats 4000000 in
theorem without_any (pane : Int) (L : Lay) : okTree L = true → (panesL L).length ≤ 1000 → ∀ (S : Nat → Prop) (vk vw : Value) (w : World), (∀ b, w.heap.size ≤ b → S b) → LayAt S w L vk vw → Calls Try.prog 66 #[.agg #[.int .i64 L.kind, .int .i64 L.pane, vk, vw], .int .i64 pane] w (fun e w' => LRes S w w' (dropL pane L) e) := by
  induction L using Lay.ind with | h k p ks ws ih => ?_
  intro hok hn S vk vw w hS h
  obtain ⟨hv, hkok⟩ := okTree_iff.1 hok
  dsimp only [Lay.kids] at hkok
  have hks : ks.length ≤ 1000 ∧ (∀ x ∈ ks, (panesL x).length ≤ 1000) ∧ (0 < ks.length → ¬ k = 1) := by
    by_cases hk : k = 1
    · have hz : ks = [] := (validN_leaf hv hk).2.2.1
      rw [hz]
      exact ⟨Nat.zero_le _, fun x hx => (by cases hx), fun h => absurd h (Nat.lt_irrefl 0)⟩
    · rw [panesL_mk, if_neg hk] at hn
      have := len_kids (ks := ks) hkok
      exact ⟨by omega, fun x hx => (by have := len_mem hx; omega), fun _ => hk⟩
  have hwl : 0 < ks.length → ws.length = ks.length := fun hz => (validN_split hv (hks.2.2 hz)).2.2.2.1
  obtain ⟨a, cap, G, rfl, hcap, hmx, hin⟩ := h.kids.open_ rfl
  obtain ⟨wa, wc, rfl, -, -, hiw⟩ := h.ints.open_ rfl
  dsimp only [Lay.kids, Lay.ws, Lay.kind, Lay.pane] at hcap hmx hin hiw h ⊢
  have HB := Lib.hid h.but
  have Hin := Lib.hid hin.but
  have HI := Lib.hid fun (x : Lay) (hx : x ∈ ks) => ih x hx (hkok x hx) (hks.2.1 x hx)
  have HKO := Lib.hid hkok
  have HL := Lib.hid hks.2.1
  have HWL := Lib.hid hwl
  have HK1 := Lib.hid hks.2.2
  have HOK := Lib.hid (And.intro hok hn)
  have HS := Lib.hid hS
  have hkn := hks.1
  clear ih hok hn hS h hv hkok hin hiw hks hwl
  go_enter Try.func66, Try.ntmps66
  go_upto_region 1 with fail
  refine abs_worldM (fun W => Grows w W ∧ Blk W w.heap.size 25 #[.int .i64 k, .int .i64 p, .slice a ks.length cap, .slice wa ws.length wc] ∧ Blk W (w.heap.size + 1) 25 #[.int .i64 0, .int .i64 0, .slice none 0 0, .slice none 0 0]) (boxes2 _ _ _) ?_
  rintro W0 ⟨hg0, hb0, hb1⟩
  obtain ⟨a0, a1, a2, a3⟩ := hb0.four
  have hl0 := hb0.lt
  have hl1 := hb1.lt
  have HB0 := Lib.hid hb0
  have HB1 := Lib.hid hb1
  have HG0 := Lib.hid hg0
  clear hb0 hb1 hg0
  go_wp2_with fail
  go_loopw [10] (fun i wr => ∃ m : Nat, ∃ wv : World, wv = wr ∧ m ≤ ks.length ∧ i = .int .i64 m ∧ (∀ (j : Nat) (y : Lay), j < m → ks[j]? = some y → pane ∉ panesL y) ∧ Grows W0 wv) (fun i _ => ks.length - (intOf i).toNat)
  case atStart => exact ⟨0, _, rfl, Nat.zero_le _, rfl, fun j y hj => by omega, Grows.refl _⟩
  case round =>
    obtain ⟨m, wv, rfl, hm, rfl, hno, hg⟩ := hrel
    have HG := Lib.hid hg
    have HNO := Lib.hid hno
    have hsz := hg.size
    obtain ⟨a0, a1, a2, a3⟩ := (HB0.out.grows hg).four
    obtain ⟨b0, b1, b2, b3⟩ := (HB1.out.grows hg).four
    obtain ⟨d0, d1, d2, d3⟩ := (HB1.out.grows hg).four'
    have hl0 := (HB0.out.grows hg).lt
    have hl1 := (HB1.out.grows hg).lt
    clear hno
    by_cases hlt : m < ks.length
    · obtain ⟨b, off, x, ka, kn, kc, xa, xn, xc, rfl, hb, -, hx, hmem, -, -, e0, e1, e4, e3, hL⟩ := (Hin.out.grows (HG0.out.trans hg)).at_ hlt
      have hk1 := HK1.out (by omega)
      have hwl := HWL.out (by omega)
      have HX := Lib.hid hx
      have HMEM := Lib.hid hmem
      have HLX := Lib.hid hL
      have HP := Lib.hid fun W (g : Grows wv W) => panes_any x (HKO.out x hmem) (HL.out x hmem) _ _ W (hL.grows g)
      have hx1 : x.kind = 1 → panesL x = [x.pane] := fun e => by
        have := leaf_of (HKO.out x hmem) e
        rw [this, leaf_panes]
        rfl
      clear hg hx hmem hL
      go_upto_region 4 with fail
      refine abs_worldM (fun W => Grows wv W ∧ Blk W wv.heap.size 25 #[.int .i64 x.kind, .int .i64 x.pane, .slice ka kn kc, .slice xa xn xc]) ⟨(by repeat' (first | (with_reducible exact Grows.refl _) | (with_reducible refine Grows.alloc ?_ _) | (with_reducible refine Grows.drew ?_) | (with_reducible refine Grows.ext ?_ _ _))), Blk.new (by simp)⟩ ?_
      rintro W1 ⟨hg1, hbk⟩
      obtain ⟨k0, k1, k2, k3⟩ := hbk.four
      have hlk := hbk.lt
      have HG1 := Lib.hid hg1
      have HBK := Lib.hid hbk
      have hs1 := hg1.size
      obtain ⟨a0, a1, a2, a3⟩ := (HB0.out.grows (HG.out.trans hg1)).four
      have hl0 := (HB0.out.grows (HG.out.trans hg1)).lt
      have HGA := Lib.hid ((HG0.out.trans HG.out).trans hg1)
      have HBA := Lib.hid (HB0.out.grows (HG.out.trans hg1))
      have HBB := Lib.hid (HB1.out.grows (HG.out.trans hg1))
      clear hg1 hbk
      by_cases hp : pane ∈ panesL x
      · by_cases hkx : x.kind = 1
        · have kk : (x.kind == 1) = true := by simpa using hkx
          have pp : (x.pane == pane) = true := by
            rw [hx1 hkx] at hp
            simpa using (List.mem_singleton.1 hp).symm
          have E2 := Lib.hid ((drop_at (k := k) (p := p) (ws := ws) HX.out hp HNO.out).1 hkx)
          obtain ⟨r1, r2, r3, r4⟩ := drop_leaf HOK.out.1 hk1 HOK.out.2 HX.out
          have HJ := Lib.hid fun W (g : w.heap.size + 2 ≤ W.heap.size) vk vw hL => joined_any k p (withL ks m 1 []) (withL ws m 1 []) hk1 r1 r2 r3 r4 (But w.heap.size S) vk vw W (but_fresh HS.out g) hL
          have HKX := Lib.hid hkx
          have HPX := Lib.hid hp
          have HKW := Lib.hid fun W' (g : Grows W1 W') => with_kidsJ (S := But w.heap.size S) ks [] m 1 m 1 rfl rfl (.slice (some ⟨b, off, none⟩) ks.length cap) (.slice none 0 0) W' (but_fresh HS.out (by have := g.size; omega)) (by rintro rfl; simp at hlt) (by omega) (by omega) (by simp) (HB.out.kids.grows (HGA.out.trans g)) (KidsAt.nil _ _ _ _)
          have HIW := Lib.hid fun W' (g : Grows W1 W') => with_intsJ (S := But w.heap.size S) ws [] m 1 m 1 rfl rfl (.slice wa ws.length wc) (.slice none 0 0) W' (but_fresh HS.out (by have := g.size; omega)) (by rintro rfl; simp at hwl; omega) (by omega) (by omega) (by simp) (HB.out.ints.grows (HGA.out.trans g)) (IntsAt.nil _ _ _ _)
          obtain ⟨q, hq⟩ : ∃ z, joinL (.mk k p (withL ks m 1 []) (withL ws m 1 [])) = z := ⟨_, rfl⟩
          rw [hq] at E2 HJ
          clear hkx hp hx1 r1 r2 r3 r4 hwl hq
          go_upto_region 5 with fail
          have hgS := Grows.refl W1
          refine wp_region_B [9, 11] (fun w' => Same (fun b => b ≠ w.heap.size) W1 w') (fun w' => Grows W1 w') (by kernel_rfl) ⟨(Grows.same (by exact hgS.trans (by repeat' (first | (with_reducible exact hgc) | (with_reducible exact Grows.refl _) | (with_reducible refine Grows.alloc ?_ _) | (with_reducible refine Grows.drew ?_) | (with_reducible refine Grows.ext ?_ _ _)))) _), (by exact hgS.trans (by repeat' (first | (with_reducible exact hgc) | (with_reducible exact Grows.refl _) | (with_reducible refine Grows.alloc ?_ _) | (with_reducible refine Grows.drew ?_) | (with_reducible refine Grows.ext ?_ _ _))))⟩ (fun hHeld => ?_)
          refine abs_anyB (fun W' => Grows W1 W' ∧ True) ⟨(by repeat' (first | (with_reducible exact hgc) | (with_reducible exact Grows.refl _) | (with_reducible refine Grows.alloc ?_ _) | (with_reducible refine Grows.drew ?_) | (with_reducible refine Grows.ext ?_ _ _))), trivial⟩ ?_
          clear hHeld
          rintro X241 ⟨hgn, hex⟩
          have hgS := hgS.trans hgn
          have hsS := hgS.size
          clear hgn hex
          have hHeld := And.intro (Grows.same (hgS) (fun b => b ≠ w.heap.size)) hgS
          refine anyB_takeT (i := 0) (v := ?v242_0) rfl (by kernel_rfl) (by kernel_rfl) (by kernel_rfl) (by kernel_rfl) (fun _ _ _ h => h) (Or.inl ⟨by kernel_rfl, ?y242_0⟩) hHeld.1 (fun _ => hHeld.2) ?r242_0
          case y242_0 => ((intro w hTw; skip; clear hTw; go_simp); (try go_ints); (try with_reducible rfl))
          try simp only [Act.put, List.getElem_toArray, List.getElem_cons_zero, List.setIfInBounds_toArray, List.set_cons_zero, List.set_cons_succ]
          refine anyB_take (i := 1) (v := ?v243_1) rfl (by kernel_rfl) (by kernel_rfl) (by kernel_rfl) (by kernel_rfl) (fun _ _ _ h => h) (Or.inl ⟨by kernel_rfl, ?y243_1⟩) (by kernel_rfl) hHeld ?r243_1
          case y243_1 => ((rintro w ⟨hTw, hSw⟩; obtain ⟨a0, a1, a2, a3⟩ := (HBA.out.grows hSw).four; have hl0 := (HBA.out.grows hSw).lt; clear hSw hTw; go_simp); (try go_ints); (try with_reducible rfl))
          try simp only [Act.put, List.getElem_toArray, List.getElem_cons_succ, List.getElem_cons_zero, List.setIfInBounds_toArray, List.set_cons_zero, List.set_cons_succ]
          refine anyB_takeT (i := 2) (v := ?v244_2) rfl (by kernel_rfl) (by kernel_rfl) (by kernel_rfl) (by kernel_rfl) (fun _ _ _ h => h) (Or.inl ⟨by kernel_rfl, ?y244_2⟩) hHeld.1 (fun _ => hHeld.2) ?r244_2
          case y244_2 => ((intro w hTw; skip; clear hTw; go_simp); (try go_ints); (try with_reducible rfl))
          try simp only [Act.put, List.getElem_toArray, List.getElem_cons_succ, List.getElem_cons_zero, List.setIfInBounds_toArray, List.set_cons_zero, List.set_cons_succ]
          refine anyB_takeT (i := 4) (v := ?v245_4) rfl (by kernel_rfl) (by kernel_rfl) (by kernel_rfl) (by kernel_rfl) (fun _ _ _ h => h) (Or.inl ⟨by kernel_rfl, ?y245_4⟩) hHeld.1 (fun _ => hHeld.2) ?r245_4
          case y245_4 => ((intro w hTw; skip; clear hTw; go_simp); (try go_ints); (try with_reducible rfl))
          try simp only [Act.put, List.getElem_toArray, List.getElem_cons_succ, List.getElem_cons_zero, List.setIfInBounds_toArray, List.set_cons_zero, List.set_cons_succ]
          refine anyB_take (i := 5) (v := ?v246_5) rfl (by kernel_rfl) (by kernel_rfl) (by kernel_rfl) (by kernel_rfl) (fun _ _ _ h => h) (Or.inl ⟨by kernel_rfl, ?y246_5⟩) (by kernel_rfl) hHeld ?r246_5
          case y246_5 => ((rintro w ⟨hTw, hSw⟩; obtain ⟨a0, a1, a2, a3⟩ := (HBA.out.grows hSw).four; have hl0 := (HBA.out.grows hSw).lt; clear hSw hTw; go_simp); (try go_ints); (try with_reducible rfl))
          try simp only [Act.put, List.getElem_toArray, List.getElem_cons_succ, List.getElem_cons_zero, List.setIfInBounds_toArray, List.set_cons_zero, List.set_cons_succ]
          refine anyB_takeT (i := 6) (v := ?v247_6) rfl (by kernel_rfl) (by kernel_rfl) (by kernel_rfl) (by kernel_rfl) (fun _ _ _ h => h) (Or.inl ⟨by kernel_rfl, ?y247_6⟩) hHeld.1 (fun _ => hHeld.2) ?r247_6
          case y247_6 => ((intro w hTw; skip; clear hTw; go_simp); (try go_ints); (try with_reducible rfl))
          try simp only [Act.put, List.getElem_toArray, List.getElem_cons_succ, List.getElem_cons_zero, List.setIfInBounds_toArray, List.set_cons_zero, List.set_cons_succ]
          refine anyB_ready (i := 3) (by kernel_rfl) rfl (fun K hK => ?_)
          simp only [List.getElem_toArray, List.getElem_cons_succ, List.getElem_cons_zero]
          go_simp
          (go_at_call 65; (go_must (with_reducible refine (HKW.out _ hgS).mono ?_)); rintro e w7 ⟨v7, rfl, hv7, hgc⟩; obtain ⟨a7, c7, rfl, -⟩ := hv7.shape rfl)
          refine hK.out _ _ ⟨?_, ?_⟩ ?_
          · ((try dsimp only); exact Grows.same (hgS.trans (by repeat' (first | (with_reducible exact hgc) | (with_reducible exact Grows.refl _) | (with_reducible refine Grows.alloc ?_ _) | (with_reducible refine Grows.drew ?_) | (with_reducible refine Grows.ext ?_ _ _)))) _)
          · ((try dsimp only); exact hgS.trans (by repeat' (first | (with_reducible exact hgc) | (with_reducible exact Grows.refl _) | (with_reducible refine Grows.alloc ?_ _) | (with_reducible refine Grows.drew ?_) | (with_reducible refine Grows.ext ?_ _ _))))
          clear hK K hHeld
          intro hHeld
          try simp only [Act.put, List.getElem_toArray, List.getElem_cons_succ, List.getElem_cons_zero, List.setIfInBounds_toArray, List.set_cons_zero, List.set_cons_succ]
          refine abs_anyB (fun W' => Grows X241 W' ∧ KidsAt (But w.heap.size S) W' (.slice a7 (withL ks m 1 []).length c7) (withL ks m 1 [])) ⟨(by repeat' (first | (with_reducible exact hgc) | (with_reducible exact Grows.refl _) | (with_reducible refine Grows.alloc ?_ _) | (with_reducible refine Grows.drew ?_) | (with_reducible refine Grows.ext ?_ _ _))), hv7⟩ ?_
          clear hHeld
          rintro X248 ⟨hgn, hex⟩
          have HV7 := Lib.hid hex
          have hgS := hgS.trans hgn
          have hsS := hgS.size
          clear hgn hex
          have hHeld := And.intro (Grows.same (hgS) (fun b => b ≠ w.heap.size)) hgS
          refine anyB_takeT (i := 8) (v := ?v249_8) rfl (by kernel_rfl) (by kernel_rfl) (by kernel_rfl) (by kernel_rfl) (fun _ _ _ h => h) (Or.inl ⟨by kernel_rfl, ?y249_8⟩) hHeld.1 (fun _ => hHeld.2) ?r249_8
          case y249_8 => ((intro w hTw; skip; clear hTw; go_simp); (try go_ints); (try with_reducible rfl))
          try simp only [Act.put, List.getElem_toArray, List.getElem_cons_succ, List.getElem_cons_zero, List.setIfInBounds_toArray, List.set_cons_zero, List.set_cons_succ]
          refine anyB_ready (i := 7) (by kernel_rfl) rfl (fun K hK => ?_)
          simp only [List.getElem_toArray, List.getElem_cons_succ, List.getElem_cons_zero]
          go_simp
          (go_at_call 59; (go_must (with_reducible refine (HIW.out _ hgS).mono ?_)); rintro e w8 ⟨v8, rfl, hv8, hgc⟩; obtain ⟨a8, c8, rfl, -⟩ := hv8.shape rfl)
          refine hK.out _ _ ⟨?_, ?_⟩ ?_
          · ((try dsimp only); exact Grows.same (hgS.trans (by repeat' (first | (with_reducible exact hgc) | (with_reducible exact Grows.refl _) | (with_reducible refine Grows.alloc ?_ _) | (with_reducible refine Grows.drew ?_) | (with_reducible refine Grows.ext ?_ _ _)))) _)
          · ((try dsimp only); exact hgS.trans (by repeat' (first | (with_reducible exact hgc) | (with_reducible exact Grows.refl _) | (with_reducible refine Grows.alloc ?_ _) | (with_reducible refine Grows.drew ?_) | (with_reducible refine Grows.ext ?_ _ _))))
          clear hK K hHeld
          intro hHeld
          try simp only [Act.put, List.getElem_toArray, List.getElem_cons_succ, List.getElem_cons_zero, List.setIfInBounds_toArray, List.set_cons_zero, List.set_cons_succ]
          refine abs_anyB (fun W' => Grows X248 W' ∧ IntsAt (But w.heap.size S) W' (.slice a8 (withL ws m 1 []).length c8) (withL ws m 1 [])) ⟨(by repeat' (first | (with_reducible exact hgc) | (with_reducible exact Grows.refl _) | (with_reducible refine Grows.alloc ?_ _) | (with_reducible refine Grows.drew ?_) | (with_reducible refine Grows.ext ?_ _ _))), hv8⟩ ?_
          clear hHeld
          rintro X250 ⟨hgn, hex⟩
          have HV7 := Lib.hid (HV7.out.grows hgn)
          have HV8 := Lib.hid hex
          have hgS := hgS.trans hgn
          have hsS := hgS.size
          clear hgn hex
          have hHeld := And.intro (Grows.same (hgS) (fun b => b ≠ w.heap.size)) hgS
          refine anyB_over (i := 9) (by kernel_rfl) rfl (by kernel_rfl) (fun K hK => ?_)
          simp only [List.getElem_toArray, List.getElem_cons_succ, List.getElem_cons_zero]
          obtain ⟨a0, a1, a2, a3⟩ := (HBA.out.grows hgS).four
          obtain ⟨f0, f1, f2, f3⟩ := (HBA.out.grows hgS).four'
          have hl0 := (HBA.out.grows hgS).lt
          go_simp
          skip
          refine hK.out _ _ ?_ ?_
          · ((try dsimp only); exact (by repeat' (first | (with_reducible exact Grows.same hgS _) | (with_reducible exact Grows.same (hgS.trans hgc) _) | (with_reducible refine Same.trans ?_ (same_set (fun h => Ne.irrefl h))))))
          clear hK K hHeld
          intro hHeld
          try simp only [Act.put, List.getElem_toArray, List.getElem_cons_succ, List.getElem_cons_zero, List.setIfInBounds_toArray, List.set_cons_zero, List.set_cons_succ]
          refine anyB_takeT (i := 10) (v := ?v251_10) rfl (by kernel_rfl) (by kernel_rfl) (by kernel_rfl) (by kernel_rfl) (fun _ _ _ h => h) (Or.inl ⟨by kernel_rfl, ?y251_10⟩) hHeld (outB_no (by kernel_rfl)) ?r251_10
          case y251_10 => ((intro w hTw; skip; clear hTw; go_simp); (try go_ints); (try with_reducible rfl))
          try simp only [Act.put, List.getElem_toArray, List.getElem_cons_succ, List.getElem_cons_zero, List.setIfInBounds_toArray, List.set_cons_zero, List.set_cons_succ]
          refine anyB_over (i := 11) (by kernel_rfl) rfl (by kernel_rfl) (fun K hK => ?_)
          simp only [List.getElem_toArray, List.getElem_cons_succ, List.getElem_cons_zero]
          go_simp
          skip
          refine hK.out _ _ ?_ ?_
          · ((try dsimp only); exact (by repeat' (first | (with_reducible exact Grows.same hgS _) | (with_reducible exact Grows.same (hgS.trans hgc) _) | (with_reducible refine Same.trans ?_ (same_set (fun h => Ne.irrefl h))))))
          clear hK K hHeld
          intro hHeld
          try simp only [Act.put, List.getElem_toArray, List.getElem_cons_succ, List.getElem_cons_zero, List.setIfInBounds_toArray, List.set_cons_zero, List.set_cons_succ]
          refine anyB_done (by kernel_rfl) ?_ _
          try clear hHeld
          refine abs_exit (fun W' => Grows w W' ∧ Blk W' w.heap.size 25 #[.int .i64 k, .int .i64 p, .slice a7 (withL ks m 1 []).length c7, .slice a8 (withL ws m 1 []).length c8] ∧ Blk W' (w.heap.size + 1) 25 #[.int .i64 0, .int .i64 0, .slice none 0 0, .slice none 0 0] ∧ LayAt (But w.heap.size S) W' (.mk k p (withL ks m 1 []) (withL ws m 1 [])) (.slice a7 (withL ks m 1 []).length c7) (.slice a8 (withL ws m 1 []).length c8)) ⟨((HGA.out.trans hgS).setCell (Nat.le_refl _) _).setCell (Nat.le_refl _) _, ((HBA.out.grows hgS).set 2 _).set 3 _, ((HBB.out.grows hgS).other (by omega)).other (by omega), (LayAt_mk.2 ⟨HV8.out, HV7.out⟩).same (but_set0.trans but_set0)⟩ ?_
          rintro W9 ⟨hg9, hb9, hb10, hl9⟩
          obtain ⟨a0, a1, a2, a3⟩ := hb9.four
          have hl0 := hb9.lt
          have hs9 : w.heap.size + 2 ≤ W9.heap.size := by have := hb10.lt; omega
          have HB10 := Lib.hid hb10
          have HL9 := Lib.hid hl9
          have HG9 := Lib.hid hg9
          clear hb9 hb10 hl9 hg9
          go_wp2_with (go_at_call 78; (go_must (with_reducible refine (HJ.out _ (Nat.le_trans hs9 (Grows.size (w := W9) (by repeat' (first | (with_reducible exact Grows.refl _) | (with_reducible refine Grows.alloc ?_ _) | (with_reducible refine Grows.drew ?_) | (with_reducible refine Grows.ext ?_ _ _))))) _ _ (HL9.out.grows (by repeat' (first | (with_reducible exact Grows.refl _) | (with_reducible refine Grows.alloc ?_ _) | (with_reducible refine Grows.drew ?_) | (with_reducible refine Grows.ext ?_ _ _))))).mono ?_)); rintro e w10 hE; obtain ⟨ka9, kc9, wa9, wc9, rfl, hl10, hg10'⟩ := hE.open_; have hg10 : Grows W9 w10 := Grows.trans (by repeat' (first | (with_reducible exact Grows.refl _) | (with_reducible refine Grows.alloc ?_ _) | (with_reducible refine Grows.drew ?_) | (with_reducible refine Grows.ext ?_ _ _))) hg10'; obtain ⟨b0, b1, b2, b3⟩ := (HB10.out.grows hg10).four; obtain ⟨d0, d1, d2, d3⟩ := (HB10.out.grows hg10).four'; have hl1 := (HB10.out.grows hg10).lt)
          refine ret_cell (t := 25) (n := w.heap.size + 1) (cs := #[.int .i64 q.kind, .int .i64 q.pane, .slice ka9 q.kids.length kc9, .slice wa9 q.ws.length wc9]) rfl rfl ?_ Try.underlying25 rfl (by kernel_rfl) rfl ?_
          · exact (HB10.out.grows hg10).set4
          · rw [E2.out]
            exact ⟨_, _, rfl, (hl10.same (but_set4 _ _ _ _)).unbut, (HG9.out.trans hg10).set4 (by omega) _ _ _ _⟩
        · have kk : (x.kind == 1) = false := by simpa using hkx
          have E2 := Lib.hid ((drop_at (k := k) (p := p) (ws := ws) HX.out hp HNO.out).2 hkx)
          obtain ⟨o1, o2⟩ := drop_tree x (HKO.out x HMEM.out) hkx hp (HL.out x HMEM.out)
          obtain ⟨r1, r2, r3, r4⟩ := drop_in HOK.out.1 hk1 HOK.out.2 HX.out o1 (by rw [o2]; exact (List.erase_sublist).length_le)
          have HC := Lib.hid fun W' (g : Grows W1 W') => HI.out x HMEM.out (But w.heap.size S) _ _ W' (but_fresh HS.out (by have := g.size; omega)) (HLX.out.grows (HG1.out.trans g))
          obtain ⟨y, hy⟩ : ∃ z, dropL pane x = z := ⟨_, rfl⟩
          rw [hy] at E2 HC r1 r2 r3 r4
          have HJ := Lib.hid fun W (g : w.heap.size + 2 ≤ W.heap.size) vk vw hL => joined_any k p (withL ks m 1 [y]) ws hk1 r1 r2 r3 r4 (But w.heap.size S) vk vw W (but_fresh HS.out g) hL
          have HKW := Lib.hid fun W' (g : Grows W1 W') vf (hvf : KidsAt (But w.heap.size S) W' vf [y]) => with_kidsJ (S := But w.heap.size S) ks [y] m 1 m 1 rfl rfl (.slice (some ⟨b, off, none⟩) ks.length cap) vf W' (but_fresh HS.out (by have := g.size; omega)) (by rintro rfl; simp at hlt) (by omega) (by omega) (by simp) (HB.out.kids.grows (HGA.out.trans g)) hvf
          obtain ⟨q, hq⟩ : ∃ z, joinL (.mk k p (withL ks m 1 [y]) ws) = z := ⟨_, rfl⟩
          rw [hq] at E2 HJ
          clear hkx hx1 r1 r2 r3 r4 hwl hq hy o1 o2
          go_upto_region 8 with (first | (go_at_call 48; (go_must (with_reducible refine (HP.out _ (HG1.out.trans (by repeat' (first | (with_reducible exact Grows.refl _) | (with_reducible refine Grows.alloc ?_ _) | (with_reducible refine Grows.drew ?_) | (with_reducible refine Grows.ext ?_ _ _))))).mono ?_)); rintro e w2 ⟨v2, rfl, hv2, hg2'⟩; have hg2 : Grows W1 w2 := Grows.trans (by repeat' (first | (with_reducible exact Grows.refl _) | (with_reducible refine Grows.alloc ?_ _) | (with_reducible refine Grows.drew ?_) | (with_reducible refine Grows.ext ?_ _ _))) hg2'; obtain ⟨va2, vc2, rfl, -⟩ := hv2.shape rfl) | (go_at_call 55; (go_must (with_reducible refine (contains_any _ _ _ _ (hv2.grows (by repeat' (first | (with_reducible exact Grows.refl _) | (with_reducible refine Grows.alloc ?_ _) | (with_reducible refine Grows.drew ?_) | (with_reducible refine Grows.ext ?_ _ _))))).mono ?_)); rintro e w3 ⟨rfl, rfl⟩))
          refine abs_worldM (fun W' => Grows W1 W') (hg2.trans (by repeat' (first | (with_reducible exact Grows.refl _) | (with_reducible refine Grows.alloc ?_ _) | (with_reducible refine Grows.drew ?_) | (with_reducible refine Grows.ext ?_ _ _)))) ?_
          rintro W2 hg12
          have HG12 := Lib.hid hg12
          have HBA2 := Lib.hid (HBA.out.grows hg12)
          have hs2 := hg12.size
          obtain ⟨k0, k1, k2, k3⟩ := (HBK.out.grows hg12).four
          have hlk := (HBK.out.grows hg12).lt
          clear hg12 hg2 hv2
          have hgS := Grows.refl W2
          refine wp_region_B [9] (fun w' => Same (fun b => b ≠ w.heap.size) W2 w') (fun w' => Grows W2 w') (by kernel_rfl) ⟨(Grows.same (by exact hgS.trans (by repeat' (first | (with_reducible exact hgc) | (with_reducible exact Grows.refl _) | (with_reducible refine Grows.alloc ?_ _) | (with_reducible refine Grows.drew ?_) | (with_reducible refine Grows.ext ?_ _ _)))) _), (by exact hgS.trans (by repeat' (first | (with_reducible exact hgc) | (with_reducible exact Grows.refl _) | (with_reducible refine Grows.alloc ?_ _) | (with_reducible refine Grows.drew ?_) | (with_reducible refine Grows.ext ?_ _ _))))⟩ (fun hHeld => ?_)
          refine abs_anyB (fun W' => Grows W2 W' ∧ True) ⟨(by repeat' (first | (with_reducible exact hgc) | (with_reducible exact Grows.refl _) | (with_reducible refine Grows.alloc ?_ _) | (with_reducible refine Grows.drew ?_) | (with_reducible refine Grows.ext ?_ _ _))), trivial⟩ ?_
          clear hHeld
          rintro X252 ⟨hgn, hex⟩
          have hgS := hgS.trans hgn
          have hsS := hgS.size
          clear hgn hex
          have hHeld := And.intro (Grows.same (hgS) (fun b => b ≠ w.heap.size)) hgS
          refine anyB_takeT (i := 0) (v := ?v253_0) rfl (by kernel_rfl) (by kernel_rfl) (by kernel_rfl) (by kernel_rfl) (fun _ _ _ h => h) (Or.inl ⟨by kernel_rfl, ?y253_0⟩) hHeld.1 (fun _ => hHeld.2) ?r253_0
          case y253_0 => ((intro w hTw; skip; clear hTw; go_simp); (try go_ints); (try with_reducible rfl))
          try simp only [Act.put, List.getElem_toArray, List.getElem_cons_zero, List.setIfInBounds_toArray, List.set_cons_zero, List.set_cons_succ]
          refine anyB_take (i := 1) (v := ?v254_1) rfl (by kernel_rfl) (by kernel_rfl) (by kernel_rfl) (by kernel_rfl) (fun _ _ _ h => h) (Or.inl ⟨by kernel_rfl, ?y254_1⟩) (by kernel_rfl) hHeld ?r254_1
          case y254_1 => ((rintro w ⟨hTw, hSw⟩; obtain ⟨a0, a1, a2, a3⟩ := (HBA2.out.grows hSw).four; have hl0 := (HBA2.out.grows hSw).lt; obtain ⟨k0, k1, k2, k3⟩ := ((HBK.out.grows HG12.out).grows hSw).four; have hlk := ((HBK.out.grows HG12.out).grows hSw).lt; clear hSw hTw; go_simp); (try go_ints); (try with_reducible rfl))
          try simp only [Act.put, List.getElem_toArray, List.getElem_cons_succ, List.getElem_cons_zero, List.setIfInBounds_toArray, List.set_cons_zero, List.set_cons_succ]
          refine anyB_takeT (i := 2) (v := ?v255_2) rfl (by kernel_rfl) (by kernel_rfl) (by kernel_rfl) (by kernel_rfl) (fun _ _ _ h => h) (Or.inl ⟨by kernel_rfl, ?y255_2⟩) hHeld.1 (fun _ => hHeld.2) ?r255_2
          case y255_2 => ((intro w hTw; skip; clear hTw; go_simp); (try go_ints); (try with_reducible rfl))
          try simp only [Act.put, List.getElem_toArray, List.getElem_cons_succ, List.getElem_cons_zero, List.setIfInBounds_toArray, List.set_cons_zero, List.set_cons_succ]
          refine anyB_take (i := 3) (v := ?v256_3) rfl (by kernel_rfl) (by kernel_rfl) (by kernel_rfl) (by kernel_rfl) (fun _ _ _ h => h) (Or.inl ⟨by kernel_rfl, ?y256_3⟩) (by kernel_rfl) hHeld ?r256_3
          case y256_3 => ((rintro w ⟨hTw, hSw⟩; obtain ⟨a0, a1, a2, a3⟩ := (HBA2.out.grows hSw).four; have hl0 := (HBA2.out.grows hSw).lt; obtain ⟨k0, k1, k2, k3⟩ := ((HBK.out.grows HG12.out).grows hSw).four; have hlk := ((HBK.out.grows HG12.out).grows hSw).lt; clear hSw hTw; go_simp); (try go_ints); (try with_reducible rfl))
          try simp only [Act.put, List.getElem_toArray, List.getElem_cons_succ, List.getElem_cons_zero, List.setIfInBounds_toArray, List.set_cons_zero, List.set_cons_succ]
          refine anyB_takeT (i := 4) (v := ?v257_4) rfl (by kernel_rfl) (by kernel_rfl) (by kernel_rfl) (by kernel_rfl) (fun _ _ _ h => h) (Or.inl ⟨by kernel_rfl, ?y257_4⟩) hHeld.1 (fun _ => hHeld.2) ?r257_4
          case y257_4 => ((intro w hTw; skip; clear hTw; go_simp); (try go_ints); (try with_reducible rfl))
          try simp only [Act.put, List.getElem_toArray, List.getElem_cons_succ, List.getElem_cons_zero, List.setIfInBounds_toArray, List.set_cons_zero, List.set_cons_succ]
          refine anyB_ready (i := 5) (by kernel_rfl) rfl (fun K hK => ?_)
          simp only [List.getElem_toArray, List.getElem_cons_succ, List.getElem_cons_zero]
          go_simp
          (go_at_call 66; (go_must (with_reducible refine (HC.out _ (HG12.out.trans hgS)).mono ?_)); rintro e w7 hE; obtain ⟨ka5, kc5, wa5, wc5, rfl, hl5, hgc⟩ := hE.open_)
          refine hK.out _ _ ⟨?_, ?_⟩ ?_
          · ((try dsimp only); exact Grows.same (hgS.trans (by repeat' (first | (with_reducible exact hgc) | (with_reducible exact Grows.refl _) | (with_reducible refine Grows.alloc ?_ _) | (with_reducible refine Grows.drew ?_) | (with_reducible refine Grows.ext ?_ _ _)))) _)
          · ((try dsimp only); exact hgS.trans (by repeat' (first | (with_reducible exact hgc) | (with_reducible exact Grows.refl _) | (with_reducible refine Grows.alloc ?_ _) | (with_reducible refine Grows.drew ?_) | (with_reducible refine Grows.ext ?_ _ _))))
          clear hK K hHeld
          intro hHeld
          try simp only [Act.put, List.getElem_toArray, List.getElem_cons_succ, List.getElem_cons_zero, List.setIfInBounds_toArray, List.set_cons_zero, List.set_cons_succ]
          refine abs_anyB (fun W' => Grows X252 W' ∧ LayAt (But w.heap.size S) W' y (.slice ka5 y.kids.length kc5) (.slice wa5 y.ws.length wc5)) ⟨(by repeat' (first | (with_reducible exact hgc) | (with_reducible exact Grows.refl _) | (with_reducible refine Grows.alloc ?_ _) | (with_reducible refine Grows.drew ?_) | (with_reducible refine Grows.ext ?_ _ _))), hl5⟩ ?_
          clear hHeld
          rintro X258 ⟨hgn, hex⟩
          have HL5 := Lib.hid hex
          have hgS := hgS.trans hgn
          have hsS := hgS.size
          clear hgn hex
          have hHeld := And.intro (Grows.same (hgS) (fun b => b ≠ w.heap.size)) hgS
          refine anyB_ready (i := 6) (by kernel_rfl) rfl (fun K hK => ?_)
          simp only [List.getElem_toArray, List.getElem_cons_succ, List.getElem_cons_zero]
          go_simp
          skip
          refine hK.out _ _ ⟨?_, ?_⟩ ?_
          · ((try dsimp only); exact Grows.same (hgS.trans (by repeat' (first | (with_reducible exact hgc) | (with_reducible exact Grows.refl _) | (with_reducible refine Grows.alloc ?_ _) | (with_reducible refine Grows.drew ?_) | (with_reducible refine Grows.ext ?_ _ _)))) _)
          · ((try dsimp only); exact hgS.trans (by repeat' (first | (with_reducible exact hgc) | (with_reducible exact Grows.refl _) | (with_reducible refine Grows.alloc ?_ _) | (with_reducible refine Grows.drew ?_) | (with_reducible refine Grows.ext ?_ _ _))))
          clear hK K hHeld
          intro hHeld
          try simp only [Act.put, List.getElem_toArray, List.getElem_cons_succ, List.getElem_cons_zero, List.setIfInBounds_toArray, List.set_cons_zero, List.set_cons_succ]
          refine abs_anyB (fun W' => Grows X258 W' ∧ KidsAt (But w.heap.size S) W' _ [y]) ⟨(by repeat' (first | (with_reducible exact hgc) | (with_reducible exact Grows.refl _) | (with_reducible refine Grows.alloc ?_ _) | (with_reducible refine Grows.drew ?_) | (with_reducible refine Grows.ext ?_ _ _))), kids_one rfl (but_fresh (m := w.heap.size + 2) HS.out (Nat.le_refl _) _ (by omega)) HL5.out⟩ ?_
          clear hHeld
          rintro X259 ⟨hgn, hex⟩
          have HL5 := Lib.hid (HL5.out.grows hgn)
          have HK6 := Lib.hid hex
          have hgS := hgS.trans hgn
          have hsS := hgS.size
          clear hgn hex
          have hHeld := And.intro (Grows.same (hgS) (fun b => b ≠ w.heap.size)) hgS
          refine anyB_ready (i := 7) (by kernel_rfl) rfl (fun K hK => ?_)
          simp only [List.getElem_toArray, List.getElem_cons_succ, List.getElem_cons_zero]
          go_simp
          (go_at_call 65; (go_must (with_reducible refine (HKW.out _ (HG12.out.trans hgS) _ HK6.out).mono ?_)); rintro e w7 ⟨v7, rfl, hv7, hgc⟩; obtain ⟨a7, c7, rfl, -⟩ := hv7.shape rfl)
          refine hK.out _ _ ⟨?_, ?_⟩ ?_
          · ((try dsimp only); exact Grows.same (hgS.trans (by repeat' (first | (with_reducible exact hgc) | (with_reducible exact Grows.refl _) | (with_reducible refine Grows.alloc ?_ _) | (with_reducible refine Grows.drew ?_) | (with_reducible refine Grows.ext ?_ _ _)))) _)
          · ((try dsimp only); exact hgS.trans (by repeat' (first | (with_reducible exact hgc) | (with_reducible exact Grows.refl _) | (with_reducible refine Grows.alloc ?_ _) | (with_reducible refine Grows.drew ?_) | (with_reducible refine Grows.ext ?_ _ _))))
          clear hK K hHeld
          intro hHeld
          try simp only [Act.put, List.getElem_toArray, List.getElem_cons_succ, List.getElem_cons_zero, List.setIfInBounds_toArray, List.set_cons_zero, List.set_cons_succ]
          refine abs_anyB (fun W' => Grows X259 W' ∧ KidsAt (But w.heap.size S) W' (.slice a7 (withL ks m 1 [y]).length c7) (withL ks m 1 [y])) ⟨(by repeat' (first | (with_reducible exact hgc) | (with_reducible exact Grows.refl _) | (with_reducible refine Grows.alloc ?_ _) | (with_reducible refine Grows.drew ?_) | (with_reducible refine Grows.ext ?_ _ _))), hv7⟩ ?_
          clear hHeld
          rintro X260 ⟨hgn, hex⟩
          have HL5 := Lib.hid (HL5.out.grows hgn)
          have HK6 := Lib.hid (HK6.out.grows hgn)
          have HV7 := Lib.hid hex
          have hgS := hgS.trans hgn
          have hsS := hgS.size
          clear hgn hex
          have hHeld := And.intro (Grows.same (hgS) (fun b => b ≠ w.heap.size)) hgS
          refine anyB_takeT (i := 8) (v := ?v261_8) rfl (by kernel_rfl) (by kernel_rfl) (by kernel_rfl) (by kernel_rfl) (fun _ _ _ h => h) (Or.inl ⟨by kernel_rfl, ?y261_8⟩) hHeld.1 (fun _ => hHeld.2) ?r261_8
          case y261_8 => ((intro w hTw; skip; clear hTw; go_simp); (try go_ints); (try with_reducible rfl))
          try simp only [Act.put, List.getElem_toArray, List.getElem_cons_succ, List.getElem_cons_zero, List.setIfInBounds_toArray, List.set_cons_zero, List.set_cons_succ]
          refine anyB_over (i := 9) (by kernel_rfl) rfl (by kernel_rfl) (fun K hK => ?_)
          simp only [List.getElem_toArray, List.getElem_cons_succ, List.getElem_cons_zero]
          obtain ⟨a0, a1, a2, a3⟩ := (HBA2.out.grows hgS).four
          obtain ⟨f0, f1, f2, f3⟩ := (HBA2.out.grows hgS).four'
          have hl0 := (HBA2.out.grows hgS).lt
          go_simp
          skip
          refine hK.out _ _ ?_ ?_
          · ((try dsimp only); exact (by repeat' (first | (with_reducible exact Grows.same hgS _) | (with_reducible exact Grows.same (hgS.trans hgc) _) | (with_reducible refine Same.trans ?_ (same_set (fun h => Ne.irrefl h))))))
          clear hK K hHeld
          intro hHeld
          try simp only [Act.put, List.getElem_toArray, List.getElem_cons_succ, List.getElem_cons_zero, List.setIfInBounds_toArray, List.set_cons_zero, List.set_cons_succ]
          refine anyB_done (by kernel_rfl) ?_ _
          try clear hHeld
          refine abs_exit (fun W' => Grows w W' ∧ Blk W' w.heap.size 25 #[.int .i64 k, .int .i64 p, .slice a7 (withL ks m 1 [y]).length c7, .slice wa ws.length wc] ∧ Blk W' (w.heap.size + 1) 25 #[.int .i64 0, .int .i64 0, .slice none 0 0, .slice none 0 0] ∧ LayAt (But w.heap.size S) W' (.mk k p (withL ks m 1 [y]) ws) (.slice a7 (withL ks m 1 [y]).length c7) (.slice wa ws.length wc)) ⟨((HGA.out.trans HG12.out).trans hgS).setCell (Nat.le_refl _) _, (HBA2.out.grows hgS).set 2 _, ((HBB.out.grows HG12.out).grows hgS).other (by omega), (LayAt_mk.2 ⟨HB.out.ints.grows ((HGA.out.trans HG12.out).trans hgS), HV7.out⟩).same but_set0⟩ ?_
          rintro W9 ⟨hg9, hb9, hb10, hl9⟩
          obtain ⟨a0, a1, a2, a3⟩ := hb9.four
          have hl0 := hb9.lt
          have hs9 : w.heap.size + 2 ≤ W9.heap.size := by have := hb10.lt; omega
          have HB10 := Lib.hid hb10
          have HL9 := Lib.hid hl9
          have HG9 := Lib.hid hg9
          clear hb9 hb10 hl9 hg9
          go_wp2_with (go_at_call 78; (go_must (with_reducible refine (HJ.out _ (Nat.le_trans hs9 (Grows.size (w := W9) (by repeat' (first | (with_reducible exact Grows.refl _) | (with_reducible refine Grows.alloc ?_ _) | (with_reducible refine Grows.drew ?_) | (with_reducible refine Grows.ext ?_ _ _))))) _ _ (HL9.out.grows (by repeat' (first | (with_reducible exact Grows.refl _) | (with_reducible refine Grows.alloc ?_ _) | (with_reducible refine Grows.drew ?_) | (with_reducible refine Grows.ext ?_ _ _))))).mono ?_)); rintro e w10 hE; obtain ⟨ka9, kc9, wa9, wc9, rfl, hl10, hg10'⟩ := hE.open_; have hg10 : Grows W9 w10 := Grows.trans (by repeat' (first | (with_reducible exact Grows.refl _) | (with_reducible refine Grows.alloc ?_ _) | (with_reducible refine Grows.drew ?_) | (with_reducible refine Grows.ext ?_ _ _))) hg10'; obtain ⟨b0, b1, b2, b3⟩ := (HB10.out.grows hg10).four; obtain ⟨d0, d1, d2, d3⟩ := (HB10.out.grows hg10).four'; have hl1 := (HB10.out.grows hg10).lt)
          refine ret_cell (t := 25) (n := w.heap.size + 1) (cs := #[.int .i64 q.kind, .int .i64 q.pane, .slice ka9 q.kids.length kc9, .slice wa9 q.ws.length wc9]) rfl rfl ?_ Try.underlying25 rfl (by kernel_rfl) rfl ?_
          · exact (HB10.out.grows hg10).set4
          · rw [E2.out]
            exact ⟨_, _, rfl, (hl10.same (but_set4 _ _ _ _)).unbut, (HG9.out.trans hg10).set4 (by omega) _ _ _ _⟩
      · have kp : x.kind = 1 → ¬ x.pane = pane := fun e1 e2 => hp (by rw [hx1 e1, e2]; simp)
        have HPN := Lib.hid hp
        clear hx1 hwl
        by_cases hkx : x.kind = 1
        · have kk : (x.kind == 1) = true := by simpa using hkx
          have pp : (x.pane == pane) = false := by simpa using kp hkx
          clear kp hkx
          go_wp2_with (first | (go_at_call 48; (go_must (with_reducible refine (HP.out _ (HG1.out.trans (by repeat' (first | (with_reducible exact Grows.refl _) | (with_reducible refine Grows.alloc ?_ _) | (with_reducible refine Grows.drew ?_) | (with_reducible refine Grows.ext ?_ _ _))))).mono ?_)); rintro e w2 ⟨v2, rfl, hv2, hg2'⟩; have hg2 : Grows W1 w2 := Grows.trans (by repeat' (first | (with_reducible exact Grows.refl _) | (with_reducible refine Grows.alloc ?_ _) | (with_reducible refine Grows.drew ?_) | (with_reducible refine Grows.ext ?_ _ _))) hg2'; obtain ⟨va2, vc2, rfl, -⟩ := hv2.shape rfl) | (go_at_call 55; (go_must (with_reducible refine (contains_any _ _ _ _ (hv2.grows (by repeat' (first | (with_reducible exact Grows.refl _) | (with_reducible refine Grows.alloc ?_ _) | (with_reducible refine Grows.drew ?_) | (with_reducible refine Grows.ext ?_ _ _))))).mono ?_)); rintro e w3 ⟨rfl, rfl⟩))
          go_roundw
          case rel => exact ⟨m + 1, _, rfl, by omega, by go_num, (no_snoc HNO.out HX.out HPN.out), ((HG.out.trans HG1.out).trans hg2).trans (by repeat' (first | (with_reducible exact Grows.refl _) | (with_reducible refine Grows.alloc ?_ _) | (with_reducible refine Grows.drew ?_) | (with_reducible refine Grows.ext ?_ _ _)))⟩
          case measure => simp [intOf]; omega
        · have kk : (x.kind == 1) = false := by simpa using hkx
          clear kp hkx
          go_wp2_with (first | (go_at_call 48; (go_must (with_reducible refine (HP.out _ (HG1.out.trans (by repeat' (first | (with_reducible exact Grows.refl _) | (with_reducible refine Grows.alloc ?_ _) | (with_reducible refine Grows.drew ?_) | (with_reducible refine Grows.ext ?_ _ _))))).mono ?_)); rintro e w2 ⟨v2, rfl, hv2, hg2'⟩; have hg2 : Grows W1 w2 := Grows.trans (by repeat' (first | (with_reducible exact Grows.refl _) | (with_reducible refine Grows.alloc ?_ _) | (with_reducible refine Grows.drew ?_) | (with_reducible refine Grows.ext ?_ _ _))) hg2'; obtain ⟨va2, vc2, rfl, -⟩ := hv2.shape rfl) | (go_at_call 55; (go_must (with_reducible refine (contains_any _ _ _ _ (hv2.grows (by repeat' (first | (with_reducible exact Grows.refl _) | (with_reducible refine Grows.alloc ?_ _) | (with_reducible refine Grows.drew ?_) | (with_reducible refine Grows.ext ?_ _ _))))).mono ?_)); rintro e w3 ⟨rfl, rfl⟩))
          go_roundw
          case rel => exact ⟨m + 1, _, rfl, by omega, by go_num, (no_snoc HNO.out HX.out HPN.out), ((HG.out.trans HG1.out).trans hg2).trans (by repeat' (first | (with_reducible exact Grows.refl _) | (with_reducible refine Grows.alloc ?_ _) | (with_reducible refine Grows.drew ?_) | (with_reducible refine Grows.ext ?_ _ _)))⟩
          case measure => simp [intOf]; omega
    · have e : m = ks.length := by omega
      subst e
      have E2 := Lib.hid (drop_none (k := k) (p := p) (ws := ws) fun j y hy => HNO.out j y (List.getElem?_eq_some_iff.1 hy).1 hy)
      clear hg
      go_wp2_with fail
      refine ret_cell (t := 25) (n := w.heap.size + 1) (cs := #[.int .i64 k, .int .i64 p, .slice a ks.length cap, .slice wa ws.length wc]) rfl rfl ?_ Try.underlying25 rfl (by kernel_rfl) rfl ?_
      · exact (HB1.out.grows HG.out).set4
      · rw [E2.out]
        exact ⟨_, _, rfl, ((HB.out.grows (HG0.out.trans HG.out)).same (but_set4 _ _ _ _)).unbut, (HG0.out.trans HG.out).set4 (by omega) _ _ _ _⟩
end Go.Proofs.Ytbobpgegkmcapaa

namespace Go.Proofs.Ytbobpgegkmcapaa
open Go.RowKit

def closeF (L : Lay) (pane : Int) : Lay × Int := if rightL L = false then (zeroL, 440) else if pane ∉ panesL L then (zeroL, 441) else if (panesL L).length = 1 then (zeroL, 7) else (dropL pane L, 0)
set_option maxHeartbeats 4000000 in
theorem close_ok {S : Nat → Prop} (L : Lay) (pane : Int) (hr : rightL L = true) (hp : pane ∈ panesL L) (h4 : (panesL L).length ≠ 1) (vk vw : Value) (w : World) (hS : ∀ b, w.heap.size ≤ b → S b) (h : LayAt S w L vk vw) : Calls Try.prog 34 #[.agg #[.int .i64 L.kind, .int .i64 L.pane, vk, vw], .int .i64 pane] w (fun e w' => EdResI S w w' (dropL pane L, 0) e) := by
  obtain ⟨hok, hn, -⟩ := right_ok hr
  have hc := chk_yes hr
  obtain ⟨ka, kc, e1, -⟩ := h.kids.shape rfl
  obtain ⟨wa, wc, e2, -⟩ := h.ints.shape rfl
  subst e1 e2
  have HC := Lib.hid fun W (g : Grows w W) => checked (h.grows g)
  rw [hc] at HC
  have HP := Lib.hid fun W (g : Grows w W) => panes_any L hok (by omega) _ _ W (h.grows g)
  have HP := Lib.hid fun W (g : Grows w W) => panesP_yes L hr _ _ W (h.grows g)
  have hX := h.exc (m := w.heap.size + 1) (by omega)
  have HE := Lib.hid fun W (g : Grows w W) (hz : w.heap.size + 2 ≤ W.heap.size) => without_any pane L hok (by omega) (Exc (w.heap.size + 1) S) _ _ W (exc_fresh hS (by omega) (by omega)) (hX.grows g)
  obtain ⟨y, hy⟩ : ∃ z, dropL pane L = z := ⟨_, rfl⟩
  rw [hy] at HE ⊢
  obtain ⟨pn, hpn⟩ : ∃ z, (panesL L).length = z := ⟨_, rfl⟩
  have e1 : ((pn : Int) == 1) = false := by simp; omega
  have HPN := Lib.hid hpn
  clear h hc hr hok hn hS hX hy hpn h4
  generalize L.kids.length = kn at *
  generalize L.ws.length = wn at *
  generalize panesL L = pl at *
  go_enter Try.func34, Try.ntmps34
  go_upto_region 1 with fail
  refine abs_worldM (fun W' => Grows w W' ∧ Blk W' w.heap.size 25 #[.int .i64 L.kind, .int .i64 L.pane, .slice ka kn kc, .slice wa wn wc] ∧ Blk W' (w.heap.size + 1) 25 #[.int .i64 0, .int .i64 0, .slice none 0 0, .slice none 0 0]) (boxes2 _ _ _) ?_
  rintro W1 ⟨hg1, hb0, hb3⟩
  obtain ⟨a0, a1, a2, a3⟩ := hb0.four
  obtain ⟨b0, b1, b2, b3⟩ := hb3.four
  obtain ⟨d0, d1, d2, d3⟩ := hb3.four'
  have hl0 := hb0.lt
  have hl3 := hb3.lt
  have HB0 := Lib.hid hb0
  have HB3 := Lib.hid hb3
  have HG1 := Lib.hid hg1
  clear hb0 hb3 hg1
  have hs1 : w.heap.size + 2 ≤ W1.heap.size := by omega
  go_wp2_with (first | (go_at_call 20; (go_must (with_reducible refine (HP.out _ (HG1.out.trans (by repeat' (first | (with_reducible exact hgW) | (with_reducible exact Grows.refl _) | (with_reducible refine Grows.alloc ?_ _) | (with_reducible refine Grows.drew ?_) | (with_reducible refine Grows.ext ?_ _ _))))).mono ?_)); rintro e w2 ⟨v2, rfl, hv2, hg2⟩; have hgW : Grows W1 w2 := Grows.trans (by repeat' (first | (with_reducible exact hgW) | (with_reducible exact Grows.refl _) | (with_reducible refine Grows.alloc ?_ _) | (with_reducible refine Grows.drew ?_) | (with_reducible refine Grows.ext ?_ _ _))) hg2; obtain ⟨a0, a1, a2, a3⟩ := (HB0.out.grows hgW).four; obtain ⟨b0, b1, b2, b3⟩ := (HB3.out.grows hgW).four; obtain ⟨d0, d1, d2, d3⟩ := (HB3.out.grows hgW).four'; have hl0 := (HB0.out.grows hgW).lt; have hl3 := (HB3.out.grows hgW).lt; obtain ⟨va, vc, rfl, hvc, -⟩ := hv2.shape HPN.out) | (go_at_call 16; (go_must (with_reducible refine (HC.out _ (HG1.out.trans (by repeat' (first | (with_reducible exact hgW) | (with_reducible exact Grows.refl _) | (with_reducible refine Grows.alloc ?_ _) | (with_reducible refine Grows.drew ?_) | (with_reducible refine Grows.ext ?_ _ _))))).mono ?_)); rintro e w3 ⟨rfl, hg3⟩; have hv3 := hv2.grows (Grows.trans (by repeat' (first | (with_reducible exact Grows.refl _) | (with_reducible refine Grows.alloc ?_ _) | (with_reducible refine Grows.drew ?_) | (with_reducible refine Grows.ext ?_ _ _))) hg3); have hgW2 := hgW; clear hgW; have hgW : Grows W1 w3 := hgW2.trans (Grows.trans (by repeat' (first | (with_reducible exact Grows.refl _) | (with_reducible refine Grows.alloc ?_ _) | (with_reducible refine Grows.drew ?_) | (with_reducible refine Grows.ext ?_ _ _))) hg3); obtain ⟨a0, a1, a2, a3⟩ := (HB0.out.grows hgW).four; obtain ⟨b0, b1, b2, b3⟩ := (HB3.out.grows hgW).four; obtain ⟨d0, d1, d2, d3⟩ := (HB3.out.grows hgW).four'; have hl0 := (HB0.out.grows hgW).lt; have hl3 := (HB3.out.grows hgW).lt) | (go_at_call 55; (go_must (with_reducible refine (contains_any _ _ _ _ (hv3.grows (by repeat' (first | (with_reducible exact Grows.refl _) | (with_reducible refine Grows.alloc ?_ _) | (with_reducible refine Grows.drew ?_) | (with_reducible refine Grows.ext ?_ _ _))))).mono ?_)); rintro e w4 ⟨rfl, rfl⟩) | (go_at_call 66; (go_must (with_reducible refine (HE.out _ (HG1.out.trans (by repeat' (first | (with_reducible exact hgW) | (with_reducible exact Grows.refl _) | (with_reducible refine Grows.alloc ?_ _) | (with_reducible refine Grows.drew ?_) | (with_reducible refine Grows.ext ?_ _ _)))) (Nat.le_trans hs1 (Grows.size (w := W1) (by repeat' (first | (with_reducible exact hgW) | (with_reducible exact Grows.refl _) | (with_reducible refine Grows.alloc ?_ _) | (with_reducible refine Grows.drew ?_) | (with_reducible refine Grows.ext ?_ _ _)))))).mono ?_)); rintro e w7 hE; obtain ⟨ka7, kc7, wa7, wc7, rfl, hl7, hg7⟩ := hE.open_; have hgV : Grows W1 w7 := Grows.trans (by repeat' (first | (with_reducible exact hgW) | (with_reducible exact Grows.refl _) | (with_reducible refine Grows.alloc ?_ _) | (with_reducible refine Grows.drew ?_) | (with_reducible refine Grows.ext ?_ _ _))) hg7; obtain ⟨a0, a1, a2, a3⟩ := (HB0.out.grows hgV).four; obtain ⟨b0, b1, b2, b3⟩ := (HB3.out.grows hgV).four; obtain ⟨d0, d1, d2, d3⟩ := (HB3.out.grows hgV).four'; have hl0 := (HB0.out.grows hgV).lt; have hl3 := (HB3.out.grows hgV).lt))
  all_goals (try (exfalso; omega))
  refine ret_cell_tmp (t := 25) (n := w.heap.size + 1) (cs := #[.int .i64 y.kind, .int .i64 y.pane, .slice ka7 y.kids.length kc7, .slice wa7 y.ws.length wc7]) rfl rfl rfl ?_ Try.underlying25 rfl (by kernel_rfl) rfl ?_
  · exact (HB3.out.grows hgV).set4
  · exact ⟨_, _, rfl, (hl7.same (exc_set4 _ _ _ _)).unexc, (HG1.out.trans hgV).set4 (by omega) _ _ _ _⟩
theorem closeF_any {S : Nat → Prop} (L : Lay) (pane : Int) (vk vw : Value) (w : World) (hS : ∀ b, w.heap.size ≤ b → S b) (h : LayAt S w L vk vw) : Calls Try.prog 34 #[.agg #[.int .i64 L.kind, .int .i64 L.pane, vk, vw], .int .i64 pane] w (fun e w' => EdResI S w w' (closeF L pane) e) := by
  unfold closeF
  by_cases hr : rightL L = false
  · rw [if_pos hr]
    exact close_no L pane hr vk vw w h
  · rw [if_neg hr]
    have hr' : rightL L = true := by simpa using hr
    by_cases h1 : pane ∉ panesL L
    · rw [if_pos h1]
      exact close_nopane L pane hr' h1 vk vw w h
    · rw [if_neg h1]
      by_cases h2 : (panesL L).length = 1
      · rw [if_pos h2]
        exact close_last L pane hr' (Decidable.not_not.1 h1) h2 vk vw w h
      · rw [if_neg h2]
        exact close_ok L pane hr' (Decidable.not_not.1 h1) h2 vk vw w hS h
end Go.Proofs.Ytbobpgegkmcapaa

