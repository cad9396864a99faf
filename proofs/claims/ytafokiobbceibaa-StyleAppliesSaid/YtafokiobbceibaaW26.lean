/-
  Walk: the law StyleApplies.
-/
import Derived.Test.YtafokiobbceibaaRows
import Derived.Test.YtafokiobbceibaaLt
import Derived.Test.YtafokiobbceibaaDefs
import Derived.Test.YtafokiobbceibaaBits
import Derived.Test.YtafokiobbceibaaMaps
import Derived.Test.YtafokiobbceibaaW1
import Derived.Test.YtafokiobbceibaaW2
import Derived.Test.YtafokiobbceibaaW4
import Derived.Test.YtafokiobbceibaaW5
import Derived.Test.YtafokiobbceibaaW6
import Derived.Test.YtafokiobbceibaaW7
import Derived.Test.YtafokiobbceibaaRun
import Derived.Test.YtafokiobbceibaaW8
import Derived.Test.YtafokiobbceibaaW9
import Derived.Test.YtafokiobbceibaaW10
import Derived.Test.YtafokiobbceibaaW11
import Derived.Test.YtafokiobbceibaaW14
import Derived.Test.YtafokiobbceibaaW18
import Derived.Test.YtafokiobbceibaaD0
import Derived.Test.YtafokiobbceibaaD1
import Derived.Test.YtafokiobbceibaaD2
import Derived.Test.YtafokiobbceibaaD3
import Derived.Test.YtafokiobbceibaaD4
import Derived.Test.YtafokiobbceibaaD5
import Derived.Test.YtafokiobbceibaaD6
import Derived.Test.YtafokiobbceibaaD7
import Derived.Test.YtafokiobbceibaaSty
import Derived.Test.YtafokiobbceibaaW21
import Derived.Test.YtafokiobbceibaaPR
import Derived.Test.YtafokiobbceibaaW22
import Derived.Test.YtafokiobbceibaaW17
import Derived.Test.YtafokiobbceibaaDrf
import Derived.Test.YtafokiobbceibaaW23
import Derived.Test.YtafokiobbceibaaW24
import Derived.Test.YtafokiobbceibaaW25
import Derived.WalkKit
import Derived.WalkSpells
import Derived.WalkLawsBesides
import Derived.Handy
import Derived.Laws.EntriesVeiled
import Derived.Lib.Hide
import Derived.Deep.Light
import Derived.Deep.LoopGhost
import Derived.BigGuardPart
import Derived.BigQuiet
import Derived.Deep.QuietTactic
import Derived.Deep.RegionHeld3
import Derived.IntWalk
import Derived.Deep.DeepCutAuto
import Derived.OwnWalk
import Derived.Outline
import Derived.Test.YtafokiobbceibaaReg
import Derived.Test.YtafokiobbceibaaReg3
import Derived.Test.YtafokiobbceibaaReg4
namespace Go.Proofs.Ytafokiobbceibaa
open Go.RowKit


theorem ActAt.away {w : World} {B N i : Nat} {v : Value} {kd n m ck cn : Int} {s : ByteArray} (h : ActAt w B kd n m ck cn s) (hn : B ≠ N) : ActAt (w.setCell ⟨N, i, none⟩ v) B kd n m ck cn s := h.heap (heap_set hn)
theorem grown_keeps {wv wx w1 : World} {base : Nat} {v : Value} {l : List Pen} (g : Grows wv wx) (h : wx.grownBy w1 v.ownBlock) (hO : OwnP wv base v l) (hb : base ≤ wv.heap.size) : ∀ b, b < base → w1.heap[b]? = wv.heap[b]? := fun b hbb =>
  (h.block b (Nat.lt_of_lt_of_le (Nat.lt_of_lt_of_le hbb hb) g.below.size) (fun e => by have := (World.ownsRow.lt hO b e.symm).1; omega)).trans (g.below.block b (Nat.lt_of_lt_of_le hbb hb))
theorem dstyle_d (d : Drf) (h : d.Ok) : ∃ ax ux fkx fnx bkx bnx lkx lnx : Int, okS ⟨ax, ux, fkx, fnx, bkx, bnx, lkx, lnx⟩ ∧ ∀ W, Calls Try.prog 10 #[.agg #[.int .u8 d.dA, .int .u8 d.dU, .int .u8 d.dW, .int .u8 d.dM, .int .u32 d.d0, .int .u32 d.d1, .int .u32 d.d2, .int .u32 d.d3]] W (Ret (.agg #[.int .i64 ax, .int .i64 ux, .int .i64 fkx, .int .i64 fnx, .int .i64 bkx, .int .i64 bnx, .int .i64 lkx, .int .i64 lnx]) W) := by
  obtain ⟨h0, h1, h2, h3, h4, h5, h6, h7⟩ := h
  exact dstyle_ok _ _ _ _ _ _ _ _ h0 h1 h2 h3 h4 h5 h6 h7
theorem own_src {w : World} {base g n c : Nat} {l : List Pen} (h : OwnP w base (.slice (some ⟨g, 0, none⟩) n c) l) (o : Obj) : ∀ j u, (pensC l)[j]? = some u → (w.alloc o).cell? ((⟨g, 0, none⟩ : Addr).add j) = some u := World.ownsRow.cells (OwnP.alloc h o) rfl
theorem pens_one (l : List Pen) : ∀ u ∈ pensC l, u.oneCell' = true := by
  intro u hu
  obtain ⟨p, -, hp⟩ := List.mem_flatMap.1 hu
  exact pen_one p u hp
/-- The second row: as the first, in a block from B on. -/
def Bent (w : World) (B : Nat) (oa : Option Addr) (l : List Pen) : Prop := l = [] ∨ ∃ g, oa = some ⟨g, 0, none⟩ ∧ B ≤ g ∧ g < w.heap.size ∧ PensIn w g 0 l ∧ ∀ j, w.frozen? ⟨g, j, none⟩ = false
theorem Bent.of {w : World} {B : Nat} {oa : Option Addr} {l : List Pen} (h : Bent w B oa l) : PensOf w oa l := by
  rcases h with rfl | ⟨g, rfl, -, hg, hp, -⟩
  · exact PensOf.nil
  · exact PensOf.of hg hp
theorem Drfs.cut {w : World} {oa : Option Addr} {n n' : Nat} (h : Drfs w oa n) (hn : n' ≤ n) : Drfs w oa n' := ⟨Nat.le_trans hn h.1, fun i hi => h.2 i (by omega)⟩
set_option maxRecDepth 100000 in
set_option maxHeartbeats 40000000 in
theorem lawApplies_true (a u fk fn bk bn lk ln : Int) (kd n m ck cn : Int) (s : ByteArray) (hi : In64 a) (hm : In64 m) (oa : Option Addr) (len cap : Nat) (hcap : len ≤ cap) (at8 : Int) (hat : 0 ≤ at8 ∧ at8 < 256) (w : World) (hd : Drfs w oa len) : Calls Try.prog 4 #[.agg #[.int .i64 a, .int .i64 u, .int .i64 fk, .int .i64 fn, .int .i64 bk, .int .i64 bn, .int .i64 lk, .int .i64 ln], .agg #[.int .i64 kd, .int .i64 n, .int .i64 m, .int .i64 ck, .int .i64 cn, .string s], .slice oa len cap, .int .u8 at8] w (Ret (.bool true) w) := by
  obtain ⟨i0, hi0, hz0, hz1, hz2⟩ := info_parts info27
  have hsz : (s.size : Int) ≤ 10 ∨ 10 < (s.size : Int) := by omega
  have HD := Lib.hid hd
  have Hi := Lib.hid hi
  have Hm := Lib.hid hm
  have hlen := hd.1
  have hlsz : (len : Int) ≤ 20 ∨ 20 < (len : Int) := by omega
  clear hd hi hm
  go_enter Try.func4, Try.ntmps4
  go_upto_region 1 with fail
  go_cut [] (fun wx => ∃ s' : ByteArray, StyAt wx w.heap.size a u fk fn bk bn lk ln ∧ ActAt wx (w.heap.size + 1) kd n m ck cn s' ∧ Grows w wx)
  case first =>
    rcases hsz with hsz | hsz
    · go_wp2_with fail
      go_meet
      exact ⟨s, ⟨by simp [go_sem], by simp [go_sem], by simp [go_sem], by simp [go_sem], by simp [go_sem], by simp [go_sem], by simp [go_sem], by simp [go_sem], by simp [go_sem], by simp [go_sem], by simp [go_sem], by simp [go_sem], by simp [go_sem], by simp [go_sem], by simp [go_sem], by simp [go_sem], by simp [go_sem]⟩, ⟨by simp [go_sem], by simp [go_sem], by simp [go_sem], by simp [go_sem], by simp [go_sem], by simp [go_sem], by simp [go_sem]⟩, (by repeat' (first | (with_reducible exact Grows.refl _) | (with_reducible refine Grows.alloc ?_ _) | (with_reducible refine Grows.drew ?_) | (with_reducible refine Grows.ext ?_ _ _)))⟩
    · go_wp2_with fail
      go_meet
      exact ⟨s.extract 0 10, ⟨by simp [go_sem], by simp [go_sem], by simp [go_sem], by simp [go_sem], by simp [go_sem], by simp [go_sem], by simp [go_sem], by simp [go_sem], by simp [go_sem], by simp [go_sem], by simp [go_sem], by simp [go_sem], by simp [go_sem], by simp [go_sem], by simp [go_sem], by simp [go_sem], by simp [go_sem]⟩, ⟨by simp [go_sem], by simp [go_sem], by simp [go_sem], by simp [go_sem], by simp [go_sem], by simp [go_sem], by simp [go_sem]⟩, (by repeat' (first | (with_reducible exact Grows.refl _) | (with_reducible refine Grows.alloc ?_ _) | (with_reducible refine Grows.drew ?_) | (with_reducible refine Grows.ext ?_ _ _)))⟩
  case rest =>
    obtain ⟨s', hS, hA, hG⟩ := hcut
    clear hsz
    have l5 : w.heap.size ≤ w.heap.size + 1 := by omega
    have l4 : w.heap.size ≤ w.heap.size := by omega
    generalize hN5 : w.heap.size + 1 = N5 at *
    generalize hN4 : w.heap.size = N4 at *
    clear hN5 hN4
    go_upto_region 2 with fail
    go_cut [2] (fun t wx => ∃ n' : Nat, t = .slice oa n' cap ∧ n' ≤ 20 ∧ n' ≤ len ∧ StyAt wx N4 a u fk fn bk bn lk ln ∧ ActAt wx N5 kd n m ck cn s' ∧ Grows w wx)
    case first =>
      rcases hlsz with hlsz | hlsz
      · go_wp2_with fail
        go_meet
        exact ⟨len, rfl, by omega, by omega, StyAt.grows hS (by repeat' (first | (with_reducible exact Grows.refl _) | (with_reducible refine Grows.alloc ?_ _) | (with_reducible refine Grows.drew ?_) | (with_reducible refine Grows.ext ?_ _ _))), ActAt.grows' hA (by repeat' (first | (with_reducible exact Grows.refl _) | (with_reducible refine Grows.alloc ?_ _) | (with_reducible refine Grows.drew ?_) | (with_reducible refine Grows.ext ?_ _ _))), (by repeat' (first | (with_reducible exact hG) | (with_reducible exact Grows.refl _) | (with_reducible refine Grows.alloc ?_ _) | (with_reducible refine Grows.drew ?_) | (with_reducible refine Grows.ext ?_ _ _)))⟩
      · go_wp2_with fail
        go_meet
        exact ⟨20, rfl, by omega, by omega, StyAt.grows hS (by repeat' (first | (with_reducible exact Grows.refl _) | (with_reducible refine Grows.alloc ?_ _) | (with_reducible refine Grows.drew ?_) | (with_reducible refine Grows.ext ?_ _ _))), ActAt.grows' hA (by repeat' (first | (with_reducible exact Grows.refl _) | (with_reducible refine Grows.alloc ?_ _) | (with_reducible refine Grows.drew ?_) | (with_reducible refine Grows.ext ?_ _ _))), (by repeat' (first | (with_reducible exact hG) | (with_reducible exact Grows.refl _) | (with_reducible refine Grows.alloc ?_ _) | (with_reducible refine Grows.drew ?_) | (with_reducible refine Grows.ext ?_ _ _)))⟩
    case rest =>
      clear hS hA hG
      obtain ⟨n', rfl, hn20, hnl, hS, hA, hG⟩ := hcut
      clear hlsz
      have HDn := Lib.hid (HD.out.cut hnl)
      have Hnc := Lib.hid (Nat.le_trans hnl hcap)
      clear HD hcap
      go_wp2
      have l10 : w.heap.size ≤ wc.heap.size := hG.below.size
      have l410 : N4 < wc.heap.size := hS.1
      have l510 : N5 < wc.heap.size := hA.1
      refine abs_world (fun W => StyAt W N4 a u fk fn bk bn lk ln ∧ ActAt W N5 kd n m ck cn s' ∧ StyAt W wc.heap.size 0 0 0 0 0 0 0 0 ∧ Grows w W ∧ wc.heap.size + 1 ≤ W.heap.size) ⟨StyAt.grows hS (by repeat' (first | (with_reducible exact Grows.refl _) | (with_reducible refine Grows.alloc ?_ _) | (with_reducible refine Grows.drew ?_) | (with_reducible refine Grows.ext ?_ _ _))), ActAt.grows' hA (by repeat' (first | (with_reducible exact Grows.refl _) | (with_reducible refine Grows.alloc ?_ _) | (with_reducible refine Grows.drew ?_) | (with_reducible refine Grows.ext ?_ _ _))), ⟨by simp [go_sem], by simp [go_sem], by simp [go_sem], by simp [go_sem], by simp [go_sem], by simp [go_sem], by simp [go_sem], by simp [go_sem], by simp [go_sem], by simp [go_sem], by simp [go_sem], by simp [go_sem], by simp [go_sem], by simp [go_sem], by simp [go_sem], by simp [go_sem], by simp [go_sem]⟩, (by repeat' (first | (with_reducible exact hG) | (with_reducible exact Grows.refl _) | (with_reducible refine Grows.alloc ?_ _) | (with_reducible refine Grows.drew ?_) | (with_reducible refine Grows.ext ?_ _ _))), by simp⟩ ?_
      clear hS hA hG
      rintro W0 ⟨hS, hA, hT, hG, hB⟩
      generalize wc.heap.size = N10 at *
      have n1 : N4 ≠ N10 := Nat.ne_of_lt l410
      have n2 : N5 ≠ N10 := Nat.ne_of_lt l510
      go_loopw [9, 11] (fun v i wr' => ∃ (wv : World) (k : Nat) (ps : List Pen) (y : Sty), wv = wr' ∧ k ≤ n' ∧ i = .int .i64 k ∧ Lok k ps ∧ (ps = [] → v = .slice none 0 0) ∧ OwnP wv (N10 + 1) v ps ∧ okS y ∧ StyAt wv N10 y.a y.u y.fk y.fn y.bk y.bn y.lk y.ln ∧ StyAt wv N4 a u fk fn bk bn lk ln ∧ ActAt wv N5 kd n m ck cn s' ∧ Grows w wv ∧ N10 + 1 ≤ wv.heap.size) (fun _ i _ => n' - (intOf i).toNat)
      case atStart => exact ⟨_, 0, [], zeroS, rfl, by omega, rfl, ⟨rfl, fun p hp => by cases hp⟩, fun _ => rfl, OwnP.nil _ _, okS_zero, hT, hS, hA, hG, hB⟩
      case round =>
        clear hS hA hT hG hB
        obtain ⟨wv, k, ps, ⟨ax, ux, fkx, fnx, bkx, bnx, lkx, lnx⟩, rfl, hk, rfl, hL, hnil, hO, hy, hT, hS, hA, hG, hB⟩ := hrel
        have HL := Lib.hid hL
        have HY := Lib.hid hy
        clear hL hy
        by_cases hlt : k < n'
        · obtain ⟨bl, off, d, hoa, hdo, hda⟩ := HDn.out.2 k hlt
          subst hoa
          obtain ⟨pn, m2, pk, pc, hm2, hp, hP⟩ := dpen_d d hdo
          obtain ⟨ay, uy, fky, fny, bky, bny, lky, lny, hz, hZ⟩ := dstyle_d d hdo
          have ha := hda.grows hG
          obtain ⟨q0, q1, q2, q3, q4, q5, q6, q7⟩ := d
          have HDA := Lib.hid hda
          obtain ⟨c0, c1, c2, c3, c4, c5, c6, c7⟩ := ha
          simp only at c0 c1 c2 c3 c4 c5 c6 c7 hP hZ
          have HP := Lib.hid hP
          have HZ := Lib.hid hZ
          have Hz := Lib.hid hz
          have HL2 := Lib.hid (HL.out.snoc hp hm2)
          have e1 : decide ((k : Int) < n') = true := by simp; omega
          have hb1 : (k : Int) < n' := by omega
          clear hP hp hm2 hdo hda hZ hz hnil
          go_upto_region 9 with (first | (go_at_call 11; (with_reducible refine (HP.out _).mono ?_); rintro e w' ⟨rfl, h6, k6, rfl⟩) | (at_builtin; refine wpList_append_own _ rfl (.tmp 45) (.tmp 51) 43 rfl (N10 + 1) 27 i0 (.agg #[.int .i64 0, .int .i64 0, .int .i64 0, .int .i64 0, .int .i64 0, .string ⟨#[]⟩]) 6 56 Try.underlying43 hi0 hz0 hz1 hz2 rfl (by decide) _ _ _ rfl (OwnP.alloc (OwnP.grows hO (Grows.ext (Grows.refl _) h6 k6)) _) ⟨wv.heap.size + h6.size, 0, none⟩ 1 1 (penC ⟨39, pn, m2, pk, pc, ⟨#[]⟩⟩) rfl rfl (pen_new (ext wv h6 k6) _ (by simp) ⟨39, pn, m2, pk, pc, ⟨#[]⟩⟩) (pen_one _) (by rw [HL.out.1]; unfold maxLen; omega) (by rw [HL.out.1]; omega) (by simp; omega) ?_; intro v' w1 hown' hgrow _))
          have hO' := OwnP.snoc (l := ps) hown'
          have hkeep := grown_keeps (((Grows.refl wv).ext h6 k6).alloc (.cells #[.int .i64 39, .int .i64 pn, .int .i64 m2, .int .i64 pk, .int .i64 pc, .string ⟨#[]⟩] 27)) hgrow hO hB
          have hG' := Grows.appended ((hG.ext h6 k6).alloc _) hgrow (fun q e => Nat.le_trans (by omega) (World.ownsRow.lt hO q e).1)
          have hB' : N10 + 1 ≤ w1.heap.size := Nat.le_trans (by simp; omega) hgrow.size
          have hT' := hT.heap (hkeep N10 (by omega))
          have hS' := hS.heap (hkeep N4 (by omega))
          have hA' := hA.heap (hkeep N5 (by omega))
          have ha := HDA.out.grows hG'
          clear hown' hgrow hO hG hT hS hA hB hkeep c0 c1 c2 c3 c4 c5 c6 c7
          obtain ⟨c0, c1, c2, c3, c4, c5, c6, c7⟩ := ha
          simp only at c0 c1 c2 c3 c4 c5 c6 c7
          have hT0 := hT'
          obtain ⟨as0, as1, as2, as3, as4, as5, as6, as7, as8, af0, af1, af2, af3, af4, af5, af6, af7⟩ := hT'
          go_wp2_with (go_at_call 10; (with_reducible refine (HZ.out _).mono ?_); rintro e w' ⟨rfl, h7, k7, rfl⟩)
          go_roundw
          case rel => exact ⟨_, k + 1, _, ⟨ay, uy, fky, fny, bky, bny, lky, lny⟩, rfl, by omega, by go_num, HL2.out, fun e => absurd e (by simp), OwnP.grows (((((((((hO').set (Nat.lt_succ_self N10)).set (Nat.lt_succ_self N10)).set (Nat.lt_succ_self N10)).set (Nat.lt_succ_self N10)).set (Nat.lt_succ_self N10)).set (Nat.lt_succ_self N10)).set (Nat.lt_succ_self N10)).set (Nat.lt_succ_self N10)) (by repeat' (first | (with_reducible exact Grows.refl _) | (with_reducible refine Grows.alloc ?_ _) | (with_reducible refine Grows.drew ?_) | (with_reducible refine Grows.ext ?_ _ _))), Hz.out, StyAt.grows (hT0.setAll _ _ _ _ _ _ _ _) (by repeat' (first | (with_reducible exact Grows.refl _) | (with_reducible refine Grows.alloc ?_ _) | (with_reducible refine Grows.drew ?_) | (with_reducible refine Grows.ext ?_ _ _))), StyAt.grows (((((((((hS').other n1).other n1).other n1).other n1).other n1).other n1).other n1).other n1) (by repeat' (first | (with_reducible exact Grows.refl _) | (with_reducible refine Grows.alloc ?_ _) | (with_reducible refine Grows.drew ?_) | (with_reducible refine Grows.ext ?_ _ _))), ActAt.grows' (((((((((hA').away n2).away n2).away n2).away n2).away n2).away n2).away n2).away n2) (by repeat' (first | (with_reducible exact Grows.refl _) | (with_reducible refine Grows.alloc ?_ _) | (with_reducible refine Grows.drew ?_) | (with_reducible refine Grows.ext ?_ _ _))), (by repeat' (first | (with_reducible exact hG') | (with_reducible refine Grows.setCell ?_ l10 _) | (with_reducible exact Grows.refl _) | (with_reducible refine Grows.alloc ?_ _) | (with_reducible refine Grows.drew ?_) | (with_reducible refine Grows.ext ?_ _ _))), by simp; omega⟩
          case measure => simp [intOf]; omega
        · obtain rfl : k = n' := by omega
          have e1 : decide ((k : Int) < k) = false := by simp
          go_upto_region 10 with fail
          have hps : ∀ p ∈ ps, In64 p.m := fun p hp => (HL.out.2 p hp).2
          obtain ⟨oa1, c1, hv9, hP1, hcase⟩ := OwnP.of hO hps
          have hn0 : ps = [] → oa1 = none ∧ c1 = 0 := fun e => by
            have := hv9.symm.trans (hnil e)
            simp at this
            exact ⟨this.1, this.2.2⟩
          subst hv9
          have hO1 := hO
          rw [HL.out.1]
          clear hnil
          have HP1 := Lib.hid hP1
          have HO1 := Lib.hid hO1
          clear hP1 hO hO1
          have HPS := Lib.hid hps
          clear hps
          go_cut [12] (fun t wx => ∃ oa2 c2, t = .slice oa2 k c2 ∧ Bent wx wv.heap.size oa2 ps ∧ Grows wv wx)
          case first =>
            rcases hcase with rfl | ⟨g, rfl, hbg, hg, hc, hpi, hfz⟩
            · obtain ⟨rfl, rfl⟩ := hn0 rfl
              obtain rfl : k = 0 := HL.out.1.symm
              go_wp2
              go_meet
              exact ⟨_, 0, rfl, .inl rfl, (by repeat' (first | (with_reducible exact Grows.refl _) | (with_reducible refine Grows.alloc ?_ _) | (with_reducible refine Grows.drew ?_) | (with_reducible refine Grows.ext ?_ _ _)))⟩
            · clear hn0
              go_wp2_with (at_builtin; refine wpList_append_own _ rfl (.tmp 58) (.tmp 59) 43 rfl wv.heap.size 27 i0 (.agg #[.int .i64 0, .int .i64 0, .int .i64 0, .int .i64 0, .int .i64 0, .string ⟨#[]⟩]) 6 56 Try.underlying43 hi0 hz0 hz1 hz2 rfl (by decide) _ _ _ rfl (World.ownsRow_made wv #[] 0 (Nat.le_refl _) (by unfold maxLen; omega) (by simp)) ⟨g, 0, none⟩ k c1 (pensC ps) rfl (by rw [pensC_len, HL.out.1]) (own_src HO1.out _) (pens_one ps) (by unfold maxLen; omega) (by omega) (by simp) ?_; intro v' w1 hown' hgrow _)
              have hgrow' : (wv.alloc (.cells #[] 27)).grownBy w1 (some wv.heap.size) := hgrow
              have hO2 : OwnP w1 wv.heap.size v' ps := by
                have h := hown'
                simp only [Nat.zero_add, List.nil_append] at h
                unfold OwnP
                rw [HL.out.1]
                exact h
              clear hown' hgrow
              obtain ⟨oa2, c2, hv', -, hB2⟩ := OwnP.of hO2 HPS.out
              rw [HL.out.1] at hv'
              subst hv'
              go_meet
              exact ⟨oa2, c2, rfl, hB2.imp id (fun ⟨g, e, hb, hg, _, hp, hf⟩ => ⟨g, e, hb, hg, hp, hf⟩), Grows.appended ((Grows.refl wv).alloc _) hgrow' (fun q e => by cases e; exact Nat.le_refl _)⟩
          case rest =>
            obtain ⟨oa2, c2, rfl, hBt, hG2⟩ := hcut
            clear hcase hn0
            go_upto_if 63 with fail
            go_cut [] (fun wx => ∃ ps2, ps2.length = k ∧ PensOf wx oa2 ps2 ∧ Grows wv wx)
            case first =>
              rcases hBt with rfl | ⟨g, rfl, hbg, hg, hp, hf⟩
              · obtain rfl : k = 0 := HL.out.1.symm
                have e2 : decide ((0 : Int) < ((0 : Nat) : Int)) = false := by simp
                go_wp2
                go_meet
                exact ⟨[], rfl, PensOf.nil, (by repeat' (first | (with_reducible exact hG2) | (with_reducible exact Grows.refl _) | (with_reducible refine Grows.alloc ?_ _) | (with_reducible refine Grows.drew ?_) | (with_reducible refine Grows.ext ?_ _ _)))⟩
              · by_cases hk0 : k = 0
                · subst hk0
                  have e2 : decide ((0 : Int) < ((0 : Nat) : Int)) = false := by simp
                  go_wp2
                  go_meet
                  exact ⟨ps, HL.out.1, PensOf.of hg hp, (by repeat' (first | (with_reducible exact hG2) | (with_reducible exact Grows.refl _) | (with_reducible refine Grows.alloc ?_ _) | (with_reducible refine Grows.drew ?_) | (with_reducible refine Grows.ext ?_ _ _)))⟩
                · have e2 : decide ((0 : Int) < (k : Int)) = true := by simp; omega
                  obtain ⟨mm, hmm⟩ : ∃ mm : Nat, (mm : Int) = at8 % k := ⟨(at8 % k).toNat, by have := Int.emod_nonneg at8 (show (k : Int) ≠ 0 by omega); omega⟩
                  have hmk : mm < k := by
                    have := Int.emod_lt_of_pos at8 (show (0 : Int) < k by omega)
                    omega
                  have hmk' : (mm : Int) < k := by omega
                  have hk1 : ¬ (k : Int) = 0 := by omega
                  have hx2 : at8 % (k : Int) = mm := hmm.symm
                  obtain ⟨hat1, hat2⟩ := hat
                  have e3 : IntKind.i64.wrap at8 = at8 := IntWalk.i64_in _ (by omega)
                  have e4 : at8.tmod (k : Int) = mm := by rw [Int.tmod_eq_emod_of_nonneg hat1]; exact hx2
                  have HPi := Lib.hid hp
                  have hA0 := hA
                  obtain ⟨p0, p1, p2, p3, p4, p5, p6⟩ := hA0
                  have hf0 := hf (mm * 6)
                  have hf1 := hf (mm * 6 + 1)
                  have hf2 := hf (mm * 6 + 2)
                  have hf3 := hf (mm * 6 + 3)
                  have hf4 := hf (mm * 6 + 4)
                  have hf5 := hf (mm * 6 + 5)
                  obtain ⟨q, hq⟩ : ∃ q, ps[mm]? = some q := ⟨ps[mm]'(by rw [HL.out.1]; exact hmk), by simp [HL.out.1, hmk]⟩
                  have hr := hp mm q hq
                  simp only [Nat.zero_add] at hr
                  obtain ⟨-, r0, r1, r2, r3, r4, r5⟩ := hr
                  clear hf hmm hp hq
                  go_upto_region 12 with fail
                  refine wp_region_held_drew (S := fun w' => Grows wv w') (by kernel_rfl) ?_ (fun hHeld => ?_)
                  · exact (by repeat' (first | (with_reducible exact hG2) | (with_reducible refine Grows.setCell ?_ hbg _) | (with_reducible exact Grows.refl _) | (with_reducible refine Grows.alloc ?_ _) | (with_reducible refine Grows.drew ?_) | (with_reducible refine Grows.ext ?_ _ _)))
                  refine wpAnyH_takeD (i := 0) (v := ?v253_0) rfl rfl (by kernel_rfl) (by kernel_rfl) (by kernel_rfl) (fun _ _ _ h => h) (Or.inl ⟨by kernel_rfl, ?y253_0⟩) (by assumption) ?r253_0
                  case y253_0 => (intro wS hSw; obtain ⟨hhS, ddS, rfl⟩ := hSw; go_simp; (try with_reducible rfl))
                  try simp only [Act.put, List.setIfInBounds_toArray, List.set_cons_zero, List.set_cons_succ]
                  refine wpAnyH_takeD (i := 1) (v := ?v254_1) rfl rfl (by kernel_rfl) (by kernel_rfl) (by kernel_rfl) (fun _ _ _ h => h) (Or.inl ⟨by kernel_rfl, ?y254_1⟩) (by assumption) ?r254_1
                  case y254_1 => (intro wS hSw; obtain ⟨hhS, ddS, rfl⟩ := hSw; go_simp; (try with_reducible rfl))
                  try simp only [Act.put, List.setIfInBounds_toArray, List.set_cons_zero, List.set_cons_succ]
                  refine wpAnyH_takeD (i := 2) (v := ?v255_2) rfl rfl (by kernel_rfl) (by kernel_rfl) (by kernel_rfl) (fun _ _ _ h => h) (Or.inl ⟨by kernel_rfl, ?y255_2⟩) (by assumption) ?r255_2
                  case y255_2 => (intro wS hSw; obtain ⟨hhS, ddS, rfl⟩ := hSw; go_simp; (try with_reducible rfl))
                  try simp only [Act.put, List.setIfInBounds_toArray, List.set_cons_zero, List.set_cons_succ]
                  refine wpAnyH_takeD (i := 3) (v := ?v256_3) rfl rfl (by kernel_rfl) (by kernel_rfl) (by kernel_rfl) (fun _ _ _ h => h) (Or.inl ⟨by kernel_rfl, ?y256_3⟩) (by assumption) ?r256_3
                  case y256_3 => (intro wS hSw; obtain ⟨hhS, ddS, rfl⟩ := hSw; go_simp; (try with_reducible rfl))
                  try simp only [Act.put, List.setIfInBounds_toArray, List.set_cons_zero, List.set_cons_succ]
                  refine wpAnyH_takeD (i := 4) (v := ?v257_4) rfl rfl (by kernel_rfl) (by kernel_rfl) (by kernel_rfl) (fun _ _ _ h => h) (Or.inl ⟨by kernel_rfl, ?y257_4⟩) (by assumption) ?r257_4
                  case y257_4 => (intro wS hSw; obtain ⟨hhS, ddS, rfl⟩ := hSw; go_simp; (try with_reducible rfl))
                  try simp only [Act.put, List.setIfInBounds_toArray, List.set_cons_zero, List.set_cons_succ]
                  refine wpAnyH_takeD (i := 5) (v := ?v258_5) rfl rfl (by kernel_rfl) (by kernel_rfl) (by kernel_rfl) (fun _ _ _ h => h) (Or.inl ⟨by kernel_rfl, ?y258_5⟩) (by assumption) ?r258_5
                  case y258_5 => (intro wS hSw; obtain ⟨hhS, ddS, rfl⟩ := hSw; go_simp; (try with_reducible rfl))
                  try simp only [Act.put, List.setIfInBounds_toArray, List.set_cons_zero, List.set_cons_succ]
                  refine wpAnyH_takeD (i := 6) (v := ?v259_6) rfl rfl (by kernel_rfl) (by kernel_rfl) (by kernel_rfl) (fun _ _ _ h => h) (Or.inl ⟨by kernel_rfl, ?y259_6⟩) (by assumption) ?r259_6
                  case y259_6 => (intro wS hSw; obtain ⟨hhS, ddS, rfl⟩ := hSw; go_simp; (try with_reducible rfl))
                  try simp only [Act.put, List.setIfInBounds_toArray, List.set_cons_zero, List.set_cons_succ]
                  refine wpAnyH_takeD (i := 7) (v := ?v260_7) rfl rfl (by kernel_rfl) (by kernel_rfl) (by kernel_rfl) (fun _ _ _ h => h) (Or.inl ⟨by kernel_rfl, ?y260_7⟩) (by assumption) ?r260_7
                  case y260_7 => (intro wS hSw; obtain ⟨hhS, ddS, rfl⟩ := hSw; go_simp; (try with_reducible rfl))
                  try simp only [Act.put, List.setIfInBounds_toArray, List.set_cons_zero, List.set_cons_succ]
                  refine wpAnyH_ready (rs := [8]) (by kernel_rfl) (by simp) ?_
                  refine AllReadyH.cons rfl (fun K hK => ?_) AllReadyH.nil
                  simp only [List.getElem_toArray, List.getElem_cons_succ, List.getElem_cons_zero]
                  go_simp
                  skip
                  refine hK.out _ _ ?_ ?_
                  · exact (by repeat' (first | (with_reducible exact hG2) | (with_reducible refine Grows.setCell ?_ hbg _) | (with_reducible exact Grows.refl _) | (with_reducible refine Grows.alloc ?_ _) | (with_reducible refine Grows.drew ?_) | (with_reducible refine Grows.ext ?_ _ _)))
                  clear hK K hHeld
                  intro hHeld
                  try simp only [Act.put, List.setIfInBounds_toArray, List.set_cons_zero, List.set_cons_succ]
                  refine wpAnyH_done (by kernel_rfl) ?_ _
                  clear hHeld
                  go_wp2
                  go_meet
                  refine ⟨ps.set mm ⟨kd, n, m, ck, cn, s'⟩, by rw [List.length_set, HL.out.1], ?_, (by repeat' (first | (with_reducible exact hG2) | (with_reducible refine Grows.setCell ?_ hbg _) | (with_reducible exact Grows.refl _) | (with_reducible refine Grows.alloc ?_ _) | (with_reducible refine Grows.drew ?_) | (with_reducible refine Grows.ext ?_ _ _)))⟩
                  have hh : PensOf (wc.setCells g (mm * 6) (penC ⟨kd, n, m, ck, cn, s'⟩)) (some ⟨g, 0, none⟩) (ps.set mm ⟨kd, n, m, ck, cn, s'⟩) := PensOf.of (by simp [World.setCells, penC, World.size_setCell, hg]) (pens_set (by rw [HL.out.1]; exact hmk) Hm.out HPi.out)
                  have hh2 := PensOf.grows hh (Grows.drew (Grows.refl _))
                  simp only [World.setCells, penC, Nat.add_assoc, Nat.reduceAdd] at hh2
                  exact hh2
            case rest =>
              clear hBt hG2
              obtain ⟨ps2, hl2, hP2, hG2⟩ := hcut
              have HP2 := Lib.hid hP2
              have Hl1 := Lib.hid HL.out.1.symm
              have Hl2 := Lib.hid hl2.symm
              have GW := Lib.hid (hG.trans hG2)
              have Hk20 := Lib.hid hn20
              have hT2 := StyAt.grows hT hG2
              have hS2 := StyAt.grows hS hG2
              have hA2 := ActAt.grows' hA hG2
              have HP1' := Lib.hid (HP1.out.grows hG2)
              clear hP2 hl2 hT hS hA hG hG2 hB HL
              have HA := Lib.hid hA2
              obtain ⟨as0, as1, as2, as3, as4, as5, as6, as7, as8, af0, af1, af2, af3, af4, af5, af6, af7⟩ := hS2
              obtain ⟨bs0, bs1, bs2, bs3, bs4, bs5, bs6, bs7, bs8, bf0, bf1, bf2, bf3, bf4, bf5, bf6, bf7⟩ := hT2
              go_upto_region 16 with fail
              clear as0 as1 as2 as3 as4 as5 as6 as7 as8 af0 af1 af2 af3 af4 af5 af6 af7 bs0 bs1 bs2 bs3 bs4 bs5 bs6 bs7 bs8 bf0 bf1 bf2 bf3 bf4 bf5 bf6 bf7
              go_loopw [75] (fun i wr' => ∃ (wv2 : World) (q : Nat), wv2 = wr' ∧ q ≤ 2 ∧ i = .int .i64 q ∧ Grows wc wv2) (fun i _ => 2 - (intOf i).toNat)
              case atStart => exact ⟨_, 0, rfl, by omega, rfl, Grows.refl _⟩
              case round =>
                obtain ⟨wo, q, rfl, hq, rfl, hGo⟩ := hrel
                by_cases hq2 : q < 2
                · have e5 : decide ((q : Int) < 2) = true := by simp; omega
                  obtain ⟨ay, uy, fky, fny, bky, bny, lky, lny, hi4, hix⟩ := index44 a u fk fn bk bn lk ln ax ux fkx fnx bkx bnx lkx lnx Hi.out (okS_in HY.out) q hq2
                  obtain ⟨ra0, ra1, ra2, ra3, ra4, ra5, ra6, ra7, ea, hva⟩ := runV_form ⟨ay, uy, fky, fny, bky, bny, lky, lny⟩ [⟨kd, n, m, ck, cn, s'⟩]
                  have HAp := Lib.hid fun W => apply_l ay uy fky fny bky bny lky lny kd n m ck cn s' ra0 ra1 ra2 ra3 ra4 ra5 ra6 ra7 ea hi4 Hm.out hva W
                  have HRp := Lib.hid fun W => rapply_l ay uy fky fny bky bny lky lny kd n m ck cn s' ra0 ra1 ra2 ra3 ra4 ra5 ra6 ra7 ea hi4 Hm.out hva W
                  have Hi4 := Lib.hid hi4
                  have hA1 := HA.out.grows' hGo
                  have HAo := Lib.hid hA1
                  obtain ⟨p0, p1, p2, p3, p4, p5, p6⟩ := hA1
                  clear hi4 hva
                  go_upto_region 17 with fail
                  refine abs_world (fun W => StyAt W wo.heap.size ay uy fky fny bky bny lky lny ∧ ActAt W N5 kd n m ck cn s' ∧ PensOf W (some ⟨wo.heap.size + 1, 0, none⟩) [⟨kd, n, m, ck, cn, s'⟩] ∧ Grows wc W) ⟨⟨by simp [go_sem], by simp [go_sem], by simp [go_sem], by simp [go_sem], by simp [go_sem], by simp [go_sem], by simp [go_sem], by simp [go_sem], by simp [go_sem], by simp [go_sem], by simp [go_sem], by simp [go_sem], by simp [go_sem], by simp [go_sem], by simp [go_sem], by simp [go_sem], by simp [go_sem]⟩, HAo.out.grows' (by repeat' (first | (with_reducible exact Grows.refl _) | (with_reducible refine Grows.alloc ?_ _) | (with_reducible refine Grows.drew ?_) | (with_reducible refine Grows.ext ?_ _ _))), PensOf.of (by simp) (pensIn1 Hm.out (by simp [go_sem]) (by simp [go_sem]) (by simp [go_sem]) (by simp [go_sem]) (by simp [go_sem]) (by simp [go_sem])), (by repeat' (first | (with_reducible exact hGo) | (with_reducible exact Grows.refl _) | (with_reducible refine Grows.alloc ?_ _) | (with_reducible refine Grows.drew ?_) | (with_reducible refine Grows.ext ?_ _ _)))⟩ ?_
                  clear p0 p1 p2 p3 p4 p5 p6 hGo
                  rintro wi ⟨hS1, hA1, hP3, hGi⟩
                  generalize wo.heap.size + 1 = N81 at *
                  generalize wo.heap.size = N14 at *
                  have HI := Lib.hid fun j hj => index45 oa1 oa2 (some ⟨N81, 0, none⟩) ps ps2 [⟨kd, n, m, ck, cn, s'⟩] k k 1 c1 c2 1 Hl1.out Hl2.out rfl Hk20.out Hk20.out (by omega) (HP1'.out.grows hGi) (HP2.out.grows hGi) hP3 j hj
                  have HA1 := Lib.hid hA1
                  have HS1 := Lib.hid hS1
                  have HGi := Lib.hid hGi
                  clear hP3 hA1 hS1 hGi
                  go_loopw [83] (fun i wr' => ∃ (wv3 : World) (j : Nat), wv3 = wr' ∧ j ≤ 3 ∧ i = .int .i64 j ∧ Grows wi wv3) (fun i _ => 3 - (intOf i).toNat)
                  case atStart => exact ⟨_, 0, rfl, by omega, rfl, Grows.refl _⟩
                  case round =>
                    obtain ⟨wq, j, rfl, hj, rfl, hGq⟩ := hrel
                    have hS1 := StyAt.grows HS1.out hGq
                    obtain ⟨as0, as1, as2, as3, as4, as5, as6, as7, as8, af0, af1, af2, af3, af4, af5, af6, af7⟩ := hS1
                    by_cases hj3 : j < 3
                    · have e6 : decide ((j : Int) < 3) = true := by simp; omega
                      obtain ⟨o5, l5, n5, c5, ⟨hn5, hn6, hp5⟩, hix5⟩ := HI.out j hj3
                      obtain ⟨rb0, rb1, rb2, rb3, rb4, rb5, rb6, rb7, eb, hvb⟩ := runV_form ⟨ay, uy, fky, fny, bky, bny, lky, lny⟩ l5
                      have h17 := fun V (gV : Grows wq V) => run_of ay uy fky fny bky bny lky lny Hi4.out l5 o5 n5 c5 V hn5 hn6 ((hp5.grows hGq).grows gV)
                      have h18 := fun V (gV : Grows wq V) => rrun_any ay uy fky fny bky bny lky lny Hi4.out l5 o5 c5 V (by omega) ((hp5.grows hGq).grows gV)
                      rw [← hn5] at h18
                      rw [hvb] at h17 h18
                      have H17 := Lib.hid h17
                      have H18 := Lib.hid h18
                      clear h17 h18 hvb hn5 hn6 hp5
                      go_wp2_with (first | (go_at_call 17; (with_reducible refine (H17.out _ (by repeat' (first | (with_reducible exact Grows.refl _) | (with_reducible refine Grows.alloc ?_ _) | (with_reducible refine Grows.drew ?_) | (with_reducible refine Grows.ext ?_ _ _)))).mono ?_); rintro e w' ⟨rfl, h7, k7, rfl⟩) | (go_at_call 18; (with_reducible refine (H18.out _ (by repeat' (first | (with_reducible exact Grows.refl _) | (with_reducible refine Grows.alloc ?_ _) | (with_reducible refine Grows.drew ?_) | (with_reducible refine Grows.ext ?_ _ _)))).mono ?_); rintro e w' ⟨rfl, h8, k8, rfl⟩))
                      go_roundw
                      case rel => exact ⟨_, j + 1, rfl, by omega, by go_num, (by repeat' (first | (with_reducible exact hGq) | (with_reducible exact Grows.refl _) | (with_reducible refine Grows.alloc ?_ _) | (with_reducible refine Grows.drew ?_) | (with_reducible refine Grows.ext ?_ _ _)))⟩
                      case measure => simp [intOf]; omega
                    · have e6 : decide ((j : Int) < 3) = false := by simp; omega
                      have hA2 := HA1.out.grows' hGq
                      obtain ⟨p0, p1, p2, p3, p4, p5, p6⟩ := hA2
                      have hGw := HGi.out.trans hGq
                      go_wp2_with (first | (go_at_call 19; (with_reducible refine (HAp.out _).mono ?_); rintro e w' ⟨rfl, h7, k7, rfl⟩) | (go_at_call 20; (with_reducible refine (HRp.out _).mono ?_); rintro e w' ⟨rfl, h8, k8, rfl⟩))
                      go_roundw
                      case rel => exact ⟨_, q + 1, rfl, by omega, by go_num, (by repeat' (first | (with_reducible exact hGw) | (with_reducible exact Grows.refl _) | (with_reducible refine Grows.alloc ?_ _) | (with_reducible refine Grows.drew ?_) | (with_reducible refine Grows.ext ?_ _ _)))⟩
                      case measure => simp [intOf]; omega
                · have e5 : decide ((q : Int) < 2) = false := by simp; omega
                  go_wp2_with (go_at_call 16; (with_reducible refine (works_true _).mono ?_); rintro e w' ⟨rfl, h1, d1, rfl⟩)
                  go_returns
                  exact ⟨rfl, (GW.out.trans hGo).trans (by repeat' (first | (with_reducible exact Grows.refl _) | (with_reducible refine Grows.alloc ?_ _) | (with_reducible refine Grows.drew ?_) | (with_reducible refine Grows.ext ?_ _ _)))⟩
end Go.Proofs.Ytafokiobbceibaa
