/-
  Walks: alike; none; cloned.
-/
import Derived.Test.YtkkhcpddpnhemaaRows
import Derived.Test.YtkkhcpddpnhemaaLt
import Derived.Test.YtkkhcpddpnhemaaDefs
import Derived.Test.YtkkhcpddpnhemaaOwn
import Derived.Test.YtkkhcpddpnhemaaW1
import Derived.Test.YtkkhcpddpnhemaaW2
import Derived.Test.YtkkhcpddpnhemaaW3
import Derived.WalkKit
import Derived.OwnWalk
import Derived.WalkSpells
import Derived.WalkLawsBesides
import Derived.Handy
import Derived.Outline
import Derived.Lib.Hide
import Derived.Deep.Light
import Derived.Deep.LoopGhost
import Derived.BigGuardPart
import Derived.BigQuiet
import Derived.Deep.QuietTactic
import Derived.Deep.DeepCutAuto
import Derived.Test.YtkkhcpddpnhemaaReg
namespace Go.Proofs.Ytkkhcpddpnhemaa
open Go.RowKit


set_option maxHeartbeats 1000000 in
theorem equal_any (a b : Option Addr) (ca cb : Nat) (la lb : List Bool) (w : World) (ha : Bs w a la) (hb : Bs w b lb) (h1 : la.length ≤ 1000) (_h2 : lb.length ≤ 1000) :
    Calls Try.prog 40 #[.slice a la.length ca, .slice b lb.length cb] w (Ret (.bool (decide (la = lb))) w) := by
  by_cases hl : la.length = lb.length
  · have Hl := Lib.hid hl
    have e1 : ((la.length : Int) != lb.length) = false := by simp [hl]
    have e2 : ((la.length : Int) == lb.length) = true := by simp [hl]
    clear hl
    go_enter Try.func40, Try.ntmps40
    go_wp2
    go_loopw [13] (fun i wr => ∃ k : Nat, k ≤ la.length ∧ i = .int .i64 k ∧ Hid (la.take k = lb.take k) ∧ ∃ x : Gr, wr = ext w x.h x.d) (fun i _ => la.length - (intOf i).toNat)
    case atStart => exact ⟨0, Nat.zero_le _, rfl, Lib.hid rfl, ⟨Gr.mk #[] w.drawn, by simp [ext, Gr.mk, Gr.h, Gr.d]⟩⟩
    case round =>
      obtain ⟨k, hk, rfl, ht, g, rfl⟩ := hrel
      by_cases hlt : k < la.length
      · obtain ⟨ba, oa, rfl, hba, hca⟩ := ha.at hlt
        obtain ⟨bb, ob, rfl, hbb, hcb⟩ := hb.at (k := k) (by have := Hl.out; omega)
        have hca' := hca k hlt
        have hcb' := hcb k (by have := Hl.out; omega)
        have hlt2 : k < lb.length := by have := Hl.out; omega
        have hlt3 : (k : Int) < la.length := by omega
        have hlt4 : decide ((k : Int) < la.length) = true := by simp; omega
        clear hca hcb ha hb
        by_cases hxy : la[k]?.getD false = lb[k]?.getD false
        · have Ht2 := Lib.hid (take_next Hl.out hlt ht.out hxy)
          generalize la[k]?.getD false = x at *
          generalize lb[k]?.getD false = y at *
          have e3 : (x != y) = false := by simp [hxy]
          have e4 : (x == y) = true := by simp [hxy]
          clear hxy ht
          go_wp2
          refine wp_region_grow (by kernel_rfl) (by kernel_rfl) ?_
          repeat (first | go_big_quiet_step ((fail)) | quiet_step ((fail)))
          refine wpQuiet_nil ?_
          rintro _ ⟨g1, rfl⟩
          go_wp2
          go_roundw
          case rel => exact ⟨k + 1, by omega, by go_num, Ht2, ⟨Gr.mk (g.h ++ g1.h) g1.d, rfl⟩⟩
          case measure => simp [intOf]; omega
        · have Hne := Lib.hid (ne_of_at hxy)
          generalize la[k]?.getD false = x at *
          generalize lb[k]?.getD false = y at *
          have e3 : (x != y) = true := by simp [hxy]
          have e4 : (x == y) = false := by simp [hxy]
          clear hxy ht
          go_wp2
          refine wp_region_grow (by kernel_rfl) (by kernel_rfl) ?_
          repeat (first | go_big_quiet_step ((fail)) | quiet_step ((fail)))
          refine wpQuiet_nil ?_
          rintro _ ⟨g1, rfl⟩
          go_wp2
          go_returns
          exact ⟨by rw [decide_eq_false Hne.out]; rfl, (by repeat' (first | (with_reducible exact Grows.refl _) | (with_reducible assumption) | (with_reducible refine Grows.alloc ?_ _) | (with_reducible refine Grows.drew ?_) | (with_reducible refine Grows.ext ?_ _ _)))⟩
      · obtain rfl : k = la.length := by omega
        have He := Lib.hid (eq_of_take Hl.out (Nat.le_refl _) ht.out)
        have hlt4 : decide ((la.length : Int) < la.length) = false := by simp
        clear ht ha hb
        go_wp2
        go_returns
        exact ⟨by rw [decide_eq_true He.out]; rfl, (by repeat' (first | (with_reducible exact Grows.refl _) | (with_reducible assumption) | (with_reducible refine Grows.alloc ?_ _) | (with_reducible refine Grows.drew ?_) | (with_reducible refine Grows.ext ?_ _ _)))⟩
  · have e1 : ((la.length : Int) != lb.length) = true := by simp; omega
    have Hne : Hid (¬ la = lb) := Lib.hid fun h => hl (by rw [h])
    clear hl
    go_enter Try.func40, Try.ntmps40
    go_wp2
    go_returns
    exact ⟨by rw [decide_eq_false Hne.out]; rfl, (by repeat' (first | (with_reducible exact Grows.refl _) | (with_reducible assumption) | (with_reducible refine Grows.alloc ?_ _) | (with_reducible refine Grows.drew ?_) | (with_reducible refine Grows.ext ?_ _ _)))⟩

theorem same_any (a b : Option Addr) (ca cb : Nat) (la lb : List Bool) (w : World) (ha : Bs w a la) (hb : Bs w b lb) (h1 : la.length ≤ 1000) (h2 : lb.length ≤ 1000) :
    Calls Try.prog 33 #[.slice a la.length ca, .slice b lb.length cb] w (Ret (.bool (decide (la = lb))) w) := by
  have he := equal_any a b ca cb la lb w ha hb h1 h2
  generalize decide (la = lb) = x at *
  have He := Lib.hid he
  clear he ha hb
  go_enter Try.func33, Try.ntmps33
  go_wp2_with (go_at_call 40; refine He.out.mono ?_; rintro e w' ⟨rfl, h3, d3, rfl⟩)
  go_returns
  exact ⟨rfl, (by repeat' (first | (with_reducible exact Grows.refl _) | (with_reducible assumption) | (with_reducible refine Grows.alloc ?_ _) | (with_reducible refine Grows.drew ?_) | (with_reducible refine Grows.ext ?_ _ _)))⟩
theorem bools_one (l : List Bool) : ∀ u ∈ l.map Value.bool, u.oneCell' = true := by
  intro u hu
  simp only [List.mem_map] at hu
  obtain ⟨x, _, rfl⟩ := hu
  rfl
theorem cells_src {w : World} {b off : Nat} {l : List Bool} (hc : ∀ j, j < l.length → w.cell? ⟨b, off + j, none⟩ = some (.bool (l[j]?.getD false))) (hb : b < w.heap.size) (o : Obj) : ∀ (j : Nat) (u : Value), (l.map Value.bool)[j]? = some u → (w.alloc o).cell? ((⟨b, off, none⟩ : Addr).add j) = some u := by
  intro j u hj
  have hj' : j < l.length := by
    have := (List.getElem?_eq_some_iff.1 hj).1
    simpa using this
  rw [show (⟨b, off, none⟩ : Addr).add j = ⟨b, off + j, none⟩ from by unfold Addr.add; split <;> simp_all]
  rw [(Below.alloc (Below.refl w.heap.size w) (Nat.le_refl _) _).cell (p := ⟨b, off + j, none⟩) hb, hc j hj', ← hj]
  simp [hj']
theorem zeros_own (n : Nat) {w w1 : World} (hown : w1.ownsRow w.heap.size 4 1 (.slice (some ⟨w.heap.size, 0, none⟩) n n) n (madeCells (Value.bool false).cells (n * 1)).toList) (hn : 0 < n) : Own w.heap.size w1 (some ⟨w.heap.size, 0, none⟩) (List.replicate n false) := by
  obtain ⟨g, cap, e, _, ho⟩ := ownC_of_row hown hn
  cases e
  unfold Own
  rw [← made_bools]
  exact ho

theorem none_no (a : Option Addr) (n cap : Nat) (w : World) (h : ¬ (2 ≤ n ∧ n ≤ 80)) : Calls Try.prog 16 #[.slice a n cap] w fun e w' => e = .returned (.tuple #[.slice none 0 0, .int .i64 240]) ∧ w = w' := by
  have hr := check_any a n cap
  rw [tErr_no h] at hr
  have Hr := Lib.hid hr
  clear hr h
  go_enter Try.func16, Try.ntmps16
  go_wp2_with (go_at_call 28; refine (Hr.out _).mono ?_; rintro e w' ⟨rfl, rfl⟩)
  go_ret2
  exact ⟨rfl, rfl⟩
set_option maxHeartbeats 1000000 in
theorem none_ok (a : Option Addr) (n cap : Nat) (w : World) (h : 2 ≤ n ∧ n ≤ 80) : Calls Try.prog 16 #[.slice a n cap] w fun e w' => ∃ b c, e = .returned (.tuple #[.slice b n c, .int .i64 0]) ∧ Own w.heap.size w' b (List.replicate n false) ∧ Grows w w' := by
  have hr := check_any a n cap
  rw [tErr_ok h] at hr
  have Hr := Lib.hid hr
  obtain ⟨h1, h2⟩ := h
  clear hr
  obtain ⟨i0, hi, hz0, hz1, hz2⟩ := info_parts info4
  go_enter Try.func16, Try.ntmps16
  go_wp2_with (first | (go_at_call 28; refine (Hr.out _).mono ?_; rintro e w' ⟨rfl, rfl⟩) | (refine wpList_make_full _ rfl (.tmp 11) (.tmp 11) 23 rfl w.heap.size 4 i0 (.bool false) 1 Try.underlying23 hi hz0 hz1 .i64 .i64 n n n rfl rfl rfl rfl (by rw [hz2]; omega) (by unfold maxLen; omega) (Nat.le_refl _) ?_; intro w1 hown hgrow))
  have HO := zeros_own n hown (by omega)
  have G1 : Grows w w1 := Grows.of_grownBy hgrow (by simp)
  clear hown hgrow
  go_wp2
  go_ret2
  exact ⟨_, _, rfl, HO, G1⟩

theorem rnone_no (a : Option Addr) (n cap : Nat) (w : World) (h : ¬ (2 ≤ n ∧ n ≤ 80)) : Calls Try.prog 17 #[.slice a n cap] w fun e w' => e = .returned (.tuple #[.slice none 0 0, .int .i64 240]) ∧ w = w' := by
  have hr := right_any a n cap
  rw [tOk_no h] at hr
  have Hr := Lib.hid hr
  clear hr h
  go_enter Try.func17, Try.ntmps17
  go_wp2_with (go_at_call 35; refine (Hr.out _).mono ?_; rintro e w' ⟨rfl, rfl⟩)
  go_ret2
  exact ⟨rfl, rfl⟩
set_option maxHeartbeats 1000000 in
theorem rnone_ok (a : Option Addr) (n cap : Nat) (w : World) (h : 2 ≤ n ∧ n ≤ 80) : Calls Try.prog 17 #[.slice a n cap] w fun e w' => ∃ b c, e = .returned (.tuple #[.slice b n c, .int .i64 0]) ∧ Own w.heap.size w' b (List.replicate n false) ∧ Grows w w' := by
  have hr := right_any a n cap
  rw [tOk_ok h] at hr
  have Hr := Lib.hid hr
  obtain ⟨h1, h2⟩ := h
  clear hr
  obtain ⟨i0, hi, hz0, hz1, hz2⟩ := info_parts info4
  go_enter Try.func17, Try.ntmps17
  go_wp2_with (first | (go_at_call 35; refine (Hr.out _).mono ?_; rintro e w' ⟨rfl, rfl⟩) | (refine wpList_make_full _ rfl (.tmp 8) (.tmp 8) 23 rfl w.heap.size 4 i0 (.bool false) 1 Try.underlying23 hi hz0 hz1 .i64 .i64 n n n rfl rfl rfl rfl (by rw [hz2]; omega) (by unfold maxLen; omega) (Nat.le_refl _) ?_; intro w1 hown hgrow))
  have HO := zeros_own n hown (by omega)
  have G1 : Grows w w1 := Grows.of_grownBy hgrow (by simp)
  clear hown hgrow
  go_wp2
  go_ret2
  exact ⟨_, _, rfl, HO, G1⟩

set_option maxHeartbeats 1000000 in
theorem clone_any (a : Option Addr) (n cap : Nat) (l : List Bool) (hl : l.length = n) (w : World) (ha : Bs w a l) (h1 : 1 ≤ n) (h2 : n ≤ 1000) : Calls Try.prog 37 #[.slice a n cap] w fun e w' => ∃ b c, e = .returned (.slice b n c) ∧ Own w.heap.size w' b l ∧ Grows w w' := by
  obtain ⟨i0, hi, hz0, hz1, hz2⟩ := info_parts info4
  obtain ⟨b, off, rfl, hb, hc⟩ := ha.at (k := 0) (by omega)
  clear ha
  have Hl := Lib.hid hl
  have Hc := Lib.hid hc
  clear hc hl
  have hnil := fun (w : World) => Lib.run_eql_slice_nil (P := Try.prog) w 23 4 (some ⟨b, off, none⟩) n cap 0 0 Try.underlying23
  go_enter Try.func37, Try.ntmps37
  go_wp2_with (at_builtin; refine wpList_append_own _ rfl (.tmp 5) (.tmp 6) 23 rfl w.heap.size 4 i0 (.bool false) 1 1 Try.underlying23 hi hz0 hz1 hz2 rfl (by decide) _ _ _ rfl (World.ownsRow_made w #[] 0 (Nat.le_refl _) (by unfold maxLen; omega) (by simp)) ⟨b, off, none⟩ n cap (l.map Value.bool) rfl (by simp [Hl.out]) (cells_src Hc.out hb _) (bools_one l) (by unfold maxLen; omega) (by omega) (by simp) ?_; intro v' w1 hown' hgrow _)
  have hown2 : w1.ownsRow w.heap.size 4 1 v' n (l.map Value.bool) := by
    have := hown'
    simpa using this
  obtain ⟨g, cap', rfl, hc2, ho⟩ := ownC_of_row hown2 h1
  have G1 : Grows w w1 := Grows.of_below (((Below.refl w.heap.size w).alloc (Nat.le_refl _) _).grown hgrow (by simp) (fun k e => by have : w.heap.size = k := Option.some.inj e; omega))
  clear hown' hown2 hgrow
  go_wp2
  go_returns
  exact ⟨_, _, rfl, ho, G1⟩
end Go.Proofs.Ytkkhcpddpnhemaa
