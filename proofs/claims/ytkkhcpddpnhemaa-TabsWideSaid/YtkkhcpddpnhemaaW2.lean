/-
  Walks: two slices that are alike.
-/
import Derived.Test.YtkkhcpddpnhemaaRows
import Derived.Test.YtkkhcpddpnhemaaLt
import Derived.Test.YtkkhcpddpnhemaaDefs
import Derived.WalkKit
import Derived.WalkSpells
import Derived.WalkLawsBesides
import Derived.Handy
import Derived.Outline
import Derived.Lib.Hide
import Derived.Deep.Light
import Derived.Deep.LoopGhost
import Derived.BigGuardPart
import Derived.BigQuiet
import Derived.Deep.QuietTactic
import Derived.Deep.DeepCutAuto
import Derived.Test.YtkkhcpddpnhemaaReg
namespace Go.Proofs.Ytkkhcpddpnhemaa
open Go.RowKit

theorem eq_of_take {α : Type} {la lb : List α} {k : Nat} (h : la.length = lb.length) (hk : la.length ≤ k) (ht : la.take k = lb.take k) : la = lb := by
  rwa [List.take_of_length_le hk, List.take_of_length_le (by omega)] at ht
theorem take_next {α : Type} {la lb : List α} {d : α} {k : Nat} (h : la.length = lb.length) (hk : k < la.length) (ht : la.take k = lb.take k) (e : la[k]?.getD d = lb[k]?.getD d) : la.take (k + 1) = lb.take (k + 1) := by
  have h2 : k < lb.length := by omega
  rw [List.take_succ_eq_append_getElem hk, List.take_succ_eq_append_getElem h2, ht]
  simp [hk, h2] at e
  rw [e]
theorem ne_of_at {α : Type} {la lb : List α} {d : α} {k : Nat} (e : ¬ la[k]?.getD d = lb[k]?.getD d) : ¬ la = lb := fun h => e (by rw [h])

set_option maxHeartbeats 1000000 in
theorem rsame_any (a b : Option Addr) (ca cb : Nat) (la lb : List Bool) (w : World) (ha : Bs w a la) (hb : Bs w b lb) (h1 : la.length ≤ 1000) (_h2 : lb.length ≤ 1000) :
    Calls Try.prog 18 #[.slice a la.length ca, .slice b lb.length cb] w (Ret (.bool (decide (la = lb))) w) := by
  by_cases hl : la.length = lb.length
  · have Hl := Lib.hid hl
    have e1 : ((la.length : Int) != lb.length) = false := by simp [hl]
    have e2 : ((la.length : Int) == lb.length) = true := by simp [hl]
    clear hl
    go_enter Try.func18, Try.ntmps18
    go_wp2
    go_loopw [5] (fun i wr => ∃ k : Nat, k ≤ la.length ∧ i = .int .i64 k ∧ Hid (la.take k = lb.take k) ∧ ∃ x : Gr, wr = ext w x.h x.d) (fun i _ => la.length - (intOf i).toNat)
    case atStart => exact ⟨0, Nat.zero_le _, rfl, Lib.hid rfl, ⟨Gr.mk #[] w.drawn, by simp [ext, Gr.mk, Gr.h, Gr.d]⟩⟩
    case round =>
      obtain ⟨k, hk, rfl, ht, g, rfl⟩ := hrel
      by_cases hlt : k < la.length
      · obtain ⟨ba, oa, rfl, hba, hca⟩ := ha.at hlt
        obtain ⟨bb, ob, rfl, hbb, hcb⟩ := hb.at (k := k) (by have := Hl.out; omega)
        have hca' := hca k hlt
        have hcb' := hcb k (by have := Hl.out; omega)
        have hlt2 : k < lb.length := by have := Hl.out; omega
        have hlt3 : (k : Int) < la.length := by omega
        have hlt4 : decide ((k : Int) < la.length) = true := by simp; omega
        clear hca hcb ha hb
        by_cases hxy : la[k]?.getD false = lb[k]?.getD false
        · have Ht2 := Lib.hid (take_next Hl.out hlt ht.out hxy)
          generalize la[k]?.getD false = x at *
          generalize lb[k]?.getD false = y at *
          have e3 : (x != y) = false := by simp [hxy]
          have e4 : (x == y) = true := by simp [hxy]
          clear hxy ht
          go_wp2
          refine wp_region_grow (by kernel_rfl) (by kernel_rfl) ?_
          repeat (first | go_big_quiet_step ((fail)) | quiet_step ((fail)))
          refine wpQuiet_nil ?_
          rintro _ ⟨g1, rfl⟩
          go_wp2
          go_roundw
          case rel => exact ⟨k + 1, by omega, by go_num, Ht2, ⟨Gr.mk (g.h ++ g1.h) g1.d, rfl⟩⟩
          case measure => simp [intOf]; omega
        · have Hne := Lib.hid (ne_of_at hxy)
          generalize la[k]?.getD false = x at *
          generalize lb[k]?.getD false = y at *
          have e3 : (x != y) = true := by simp [hxy]
          have e4 : (x == y) = false := by simp [hxy]
          clear hxy ht
          go_wp2
          refine wp_region_grow (by kernel_rfl) (by kernel_rfl) ?_
          repeat (first | go_big_quiet_step ((fail)) | quiet_step ((fail)))
          refine wpQuiet_nil ?_
          rintro _ ⟨g1, rfl⟩
          go_wp2
          go_returns
          exact ⟨by rw [decide_eq_false Hne.out]; rfl, (by repeat' (first | (with_reducible exact Grows.refl _) | (with_reducible assumption) | (with_reducible refine Grows.alloc ?_ _) | (with_reducible refine Grows.drew ?_) | (with_reducible refine Grows.ext ?_ _ _)))⟩
      · obtain rfl : k = la.length := by omega
        have He := Lib.hid (eq_of_take Hl.out (Nat.le_refl _) ht.out)
        have hlt4 : decide ((la.length : Int) < la.length) = false := by simp
        clear ht ha hb
        go_wp2
        go_returns
        exact ⟨by rw [decide_eq_true He.out]; rfl, (by repeat' (first | (with_reducible exact Grows.refl _) | (with_reducible assumption) | (with_reducible refine Grows.alloc ?_ _) | (with_reducible refine Grows.drew ?_) | (with_reducible refine Grows.ext ?_ _ _)))⟩
  · have e1 : ((la.length : Int) != lb.length) = true := by simp; omega
    have Hne : Hid (¬ la = lb) := Lib.hid fun h => hl (by rw [h])
    clear hl
    go_enter Try.func18, Try.ntmps18
    go_wp2
    go_returns
    exact ⟨by rw [decide_eq_false Hne.out]; rfl, (by repeat' (first | (with_reducible exact Grows.refl _) | (with_reducible assumption) | (with_reducible refine Grows.alloc ?_ _) | (with_reducible refine Grows.drew ?_) | (with_reducible refine Grows.ext ?_ _ _)))⟩

set_option maxHeartbeats 1000000 in
theorem ints_any (a b : Option Addr) (ca cb : Nat) (la lb : List Int) (w : World) (ha : Is w a la) (hb : Is w b lb) (h1 : la.length ≤ 1000) (_h2 : lb.length ≤ 1000) :
    Calls Try.prog 30 #[.slice a la.length ca, .slice b lb.length cb] w (Ret (.bool (decide (la = lb))) w) := by
  by_cases hl : la.length = lb.length
  · have Hl := Lib.hid hl
    have e1 : ((la.length : Int) != lb.length) = false := by simp [hl]
    have e2 : ((la.length : Int) == lb.length) = true := by simp [hl]
    clear hl
    go_enter Try.func30, Try.ntmps30
    go_wp2
    go_loopw [5] (fun i wr => ∃ k : Nat, k ≤ la.length ∧ i = .int .i64 k ∧ Hid (la.take k = lb.take k) ∧ ∃ x : Gr, wr = ext w x.h x.d) (fun i _ => la.length - (intOf i).toNat)
    case atStart => exact ⟨0, Nat.zero_le _, rfl, Lib.hid rfl, ⟨Gr.mk #[] w.drawn, by simp [ext, Gr.mk, Gr.h, Gr.d]⟩⟩
    case round =>
      obtain ⟨k, hk, rfl, ht, g, rfl⟩ := hrel
      by_cases hlt : k < la.length
      · obtain ⟨ba, oa, rfl, hba, hca⟩ := ha.at hlt
        obtain ⟨bb, ob, rfl, hbb, hcb⟩ := hb.at (k := k) (by have := Hl.out; omega)
        have hca' := hca k hlt
        have hcb' := hcb k (by have := Hl.out; omega)
        have hlt2 : k < lb.length := by have := Hl.out; omega
        have hlt3 : (k : Int) < la.length := by omega
        have hlt4 : decide ((k : Int) < la.length) = true := by simp; omega
        clear hca hcb ha hb
        by_cases hxy : la[k]?.getD 0 = lb[k]?.getD 0
        · have Ht2 := Lib.hid (take_next Hl.out hlt ht.out hxy)
          generalize la[k]?.getD 0 = x at *
          generalize lb[k]?.getD 0 = y at *
          have e3 : (x != y) = false := by simp [hxy]
          have e4 : (x == y) = true := by simp [hxy]
          clear hxy ht
          go_wp2
          refine wp_region_grow (by kernel_rfl) (by kernel_rfl) ?_
          repeat (first | go_big_quiet_step ((fail)) | quiet_step ((fail)))
          refine wpQuiet_nil ?_
          rintro _ ⟨g1, rfl⟩
          go_wp2
          go_roundw
          case rel => exact ⟨k + 1, by omega, by go_num, Ht2, ⟨Gr.mk (g.h ++ g1.h) g1.d, rfl⟩⟩
          case measure => simp [intOf]; omega
        · have Hne := Lib.hid (ne_of_at hxy)
          generalize la[k]?.getD 0 = x at *
          generalize lb[k]?.getD 0 = y at *
          have e3 : (x != y) = true := by simp [hxy]
          have e4 : (x == y) = false := by simp [hxy]
          clear hxy ht
          go_wp2
          refine wp_region_grow (by kernel_rfl) (by kernel_rfl) ?_
          repeat (first | go_big_quiet_step ((fail)) | quiet_step ((fail)))
          refine wpQuiet_nil ?_
          rintro _ ⟨g1, rfl⟩
          go_wp2
          go_returns
          exact ⟨by rw [decide_eq_false Hne.out]; rfl, (by repeat' (first | (with_reducible exact Grows.refl _) | (with_reducible assumption) | (with_reducible refine Grows.alloc ?_ _) | (with_reducible refine Grows.drew ?_) | (with_reducible refine Grows.ext ?_ _ _)))⟩
      · obtain rfl : k = la.length := by omega
        have He := Lib.hid (eq_of_take Hl.out (Nat.le_refl _) ht.out)
        have hlt4 : decide ((la.length : Int) < la.length) = false := by simp
        clear ht ha hb
        go_wp2
        go_returns
        exact ⟨by rw [decide_eq_true He.out]; rfl, (by repeat' (first | (with_reducible exact Grows.refl _) | (with_reducible assumption) | (with_reducible refine Grows.alloc ?_ _) | (with_reducible refine Grows.drew ?_) | (with_reducible refine Grows.ext ?_ _ _)))⟩
  · have e1 : ((la.length : Int) != lb.length) = true := by simp; omega
    have Hne : Hid (¬ la = lb) := Lib.hid fun h => hl (by rw [h])
    clear hl
    go_enter Try.func30, Try.ntmps30
    go_wp2
    go_returns
    exact ⟨by rw [decide_eq_false Hne.out]; rfl, (by repeat' (first | (with_reducible exact Grows.refl _) | (with_reducible assumption) | (with_reducible refine Grows.alloc ?_ _) | (with_reducible refine Grows.drew ?_) | (with_reducible refine Grows.ext ?_ _ _)))⟩
end Go.Proofs.Ytkkhcpddpnhemaa
