/-
  Walks: the stops of the reference; drafts.
-/
import Derived.Test.YtkkhcpddpnhemaaRows
import Derived.Test.YtkkhcpddpnhemaaLt
import Derived.Test.YtkkhcpddpnhemaaDefs
import Derived.Test.YtkkhcpddpnhemaaOwn
import Derived.Test.YtkkhcpddpnhemaaVis
import Derived.Test.YtkkhcpddpnhemaaW1
import Derived.Test.YtkkhcpddpnhemaaW2
import Derived.Test.YtkkhcpddpnhemaaW3
import Derived.Test.YtkkhcpddpnhemaaW4
import Derived.Test.YtkkhcpddpnhemaaW8
import Derived.Test.YtkkhcpddpnhemaaW12
import Derived.WalkKit
import Derived.OwnWalk
import Derived.WalkSpells
import Derived.WalkLawsBesides
import Derived.Handy
import Derived.Outline
import Derived.Lib.Hide
import Derived.Deep.Light
import Derived.Deep.LoopGhost
import Derived.BigGuardPart
import Derived.BigQuiet
import Derived.Deep.QuietTactic
import Derived.Deep.DeepCutAuto
import Derived.Test.YtkkhcpddpnhemaaReg
namespace Go.Proofs.Ytkkhcpddpnhemaa
open Go.RowKit


set_option maxHeartbeats 2000000 in
theorem rstops_any (a : Option Addr) (n cap : Nat) (l : List Bool) (hl : l.length = n) (hn : n ≤ 90) (w : World) (ha : Bs w a l) :
    Calls Try.prog 32 #[.slice a n cap] w fun e W' => ∃ b c, e = .returned (.slice b (vis (fw 0) l n).length c) ∧ Is W' b (toI (vis (fw 0) l n)) ∧ Grows w W' := by
  obtain ⟨i0, hi, hz0, hz1, hz2⟩ := info_parts info3
  have Hl := Lib.hid hl
  have Ha := Lib.hid ha
  clear hl ha
  go_enter Try.func32, Try.ntmps32
  go_wp2
  go_loopw [3, 4] (fun v i wr => ∃ k : Nat, k ≤ n ∧ i = .int .i64 k ∧ wr.ownsRow w.heap.size 3 1 v (vis (fw 0) l k).length (nums (vis (fw 0) l k)) ∧ Below w.heap.size w wr) (fun _ i _ => n - (intOf i).toNat)
  case atStart => exact ⟨0, by omega, rfl, World.ownsRow_nil _ _ _ _, Below.refl _ _⟩
  case round =>
    obtain ⟨k, hk, rfl, hown, hb⟩ := hrel
    have hsz := hb.size
    have hv := vis_len (fw 0) l k
    by_cases hlt : k < n
    · obtain ⟨b, off, rfl, hbl, hca⟩ := Ha.out.at (k := k) (by have := Hl.out; omega)
      have c1 : wr.cell? ⟨b, off + k, none⟩ = some (.bool (l[k]?.getD false)) := (hb.cell (p := ⟨b, off + k, none⟩) hbl).trans (hca k (by have := Hl.out; omega))
      have HY : Hid (l[k]?.getD false = true → vis (fw 0) l (k + 1) = vis (fw 0) l k ++ [k]) := Lib.hid fun h => by
        have := vis_yes (f := fw 0) (l := l) (j := k) (by unfold fw; rw [Nat.zero_add]; exact h)
        rw [this]
        unfold fw
        rw [Nat.zero_add]
      have HN : Hid (l[k]?.getD false = false → vis (fw 0) l (k + 1) = vis (fw 0) l k) := Lib.hid fun h => vis_no (by unfold fw; rw [Nat.zero_add]; exact h)
      have hlt3 : (k : Int) < n := by omega
      clear hca Ha
      generalize hx : l[k]?.getD false = x at *
      cases x with
      | true =>
        have H1 := Lib.hid (HY.out rfl)
        clear hx HY HN
        go_wp2_with (at_builtin; refine wpList_append_own _ rfl (.tmp 15) (.tmp 17) 49 rfl w.heap.size 3 i0 (.int .i64 0) 1 8 Try.underlying49 hi hz0 hz1 hz2 rfl (by decide) _ _ _ rfl (hown.alloc _) ⟨wr.heap.size, 0, none⟩ 1 1 [.int .i64 k] rfl rfl (cell_one_new _ _ _) (by simp [Value.oneCell']) (by unfold maxLen; omega) (by omega) (by simp; omega) ?_; intro v' w1 hown' hgrow _)
        have hb1 := (hb.alloc hsz (.cells #[.int .i64 k] 3)).grown hgrow (by simp; omega) (fun q e => (hown.lt q e).1)
        clear hgrow hown hb
        go_wp2
        go_roundw
        case rel => exact ⟨k + 1, by omega, by go_num, by rw [H1.out, nums_snoc, List.length_append, List.length_singleton]; exact hown', hb1⟩
        case measure => simp [intOf]; omega
      | false =>
        have H1 := Lib.hid (HN.out rfl)
        clear hx HY HN
        go_wp2
        go_roundw
        case rel => exact ⟨k + 1, by omega, by go_num, by rw [H1.out]; exact hown, hb⟩
        case measure => simp [intOf]; omega
    · obtain rfl : k = n := by omega
      have e1 : decide ((k : Int) < k) = false := by simp
      obtain ⟨b, c, rfl, hI⟩ := is_of_row hown
      clear hown
      go_wp2
      go_ret
      exact ⟨b, c, rfl, hI, Grows.of_below hb⟩
/-- The slice at a holds small numbers. -/
def Us (w : World) (a : Option Addr) (l : List Int) : Prop :=
  (∀ x ∈ l, 0 ≤ x ∧ x < 256) ∧ (l = [] ∨ ∃ b off, a = some ⟨b, off, none⟩ ∧ b < w.heap.size ∧ ∀ j, j < l.length → w.cell? ⟨b, off + j, none⟩ = some (.int .u8 (l[j]?.getD 0)))
theorem Us.at {w : World} {a : Option Addr} {l : List Int} (h : Us w a l) {k : Nat} (hk : k < l.length) : ∃ b off, a = some ⟨b, off, none⟩ ∧ b < w.heap.size ∧ w.cell? ⟨b, off + k, none⟩ = some (.int .u8 (l[k]?.getD 0)) ∧ 0 ≤ l[k]?.getD 0 ∧ l[k]?.getD 0 < 256 := by
  obtain ⟨h1, h2⟩ := h
  rcases h2 with rfl | ⟨b, off, e, hb, hc⟩
  · simp at hk
  · refine ⟨b, off, e, hb, hc k hk, ?_⟩
    rw [List.getElem?_eq_getElem hk]
    exact h1 _ (List.getElem_mem hk)
set_option maxHeartbeats 2000000 in
theorem of_any (c : Int) (hc : 0 ≤ c ∧ c < 256) (a : Option Addr) (cap : Nat) (l : List Int) (hl : l.length ≤ 9223372036854775807) (w : World) (ha : Us w a l) :
    Calls Try.prog 23 #[.int .u8 c, .slice a l.length cap] w fun e W' => ∃ b n cp t, e = .returned (.slice b n cp) ∧ 2 ≤ n ∧ n ≤ 80 ∧ t.length = n ∧ Own w.heap.size W' b t ∧ Grows w W' := by
  obtain ⟨n, hn⟩ : ∃ n : Nat, (n : Int) = 2 + c % 79 := ⟨(2 + c % 79).toNat, by omega⟩
  have hn1 : 2 ≤ n := by omega
  have hn2 : n ≤ 80 := by omega
  obtain ⟨i0, hi, hz0, hz1, hz2⟩ := info_parts info4
  obtain ⟨hc1, hc2⟩ := hc
  have Ha := Lib.hid ha
  have Hn := Lib.hid hn
  clear ha hn
  go_enter Try.func23, Try.ntmps23
  go_wp2_with (refine wpList_make_full _ rfl (.tmp 10) (.tmp 10) 23 rfl w.heap.size 4 i0 (.bool false) 1 Try.underlying23 hi hz0 hz1 .i64 .i64 _ _ n rfl rfl Hn.out.symm Hn.out.symm (by rw [hz2]; omega) (by unfold maxLen; omega) (Nat.le_refl _) ?_; intro w1 hown hgrow)
  have HO := zeros_own n hown (by omega)
  have G1 : Grows w w1 := Grows.of_grownBy hgrow (by simp)
  clear hown hgrow
  go_loopw [6] (fun i wr => ∃ (k : Nat) (t : List Bool), k ≤ l.length ∧ i = .int .i64 k ∧ t.length ≤ n ∧ n ≤ t.length ∧ Own w.heap.size wr (some ⟨w.heap.size, 0, none⟩) t ∧ Grows w wr) (fun i _ => l.length - (intOf i).toNat)
  case atStart => exact ⟨0, List.replicate n false, by omega, rfl, by simp, by simp, HO, G1⟩
  case round =>
    clear HO G1
    obtain ⟨k, t, hk, rfl, ht1, ht2, HO, G1⟩ := hrel
    by_cases hlt : k < l.length
    · obtain ⟨b, off, rfl, hbl, hca, hx0, hx1⟩ := Ha.out.at hlt
      have c1 := (G1.below.cell (p := ⟨b, off + k, none⟩) hbl).trans hca
      have hlt3 : (k : Int) < l.length := by omega
      clear hca Ha
      generalize l[k]?.getD 0 = x at *
      obtain ⟨m, hm⟩ : ∃ m : Nat, (m : Int) = x % n := ⟨(x % n).toNat, by have := Int.emod_nonneg x (show (n : Int) ≠ 0 by omega); omega⟩
      have hmn : m < n := by
        have := Int.emod_lt_of_pos x (show (0 : Int) < n by omega)
        omega
      obtain ⟨h5, h6, h7, h8⟩ := Own.at HO
      have c2 := h7 m (by omega)
      have f2 := h8 m
      have hn0 : ¬ (n : Int) = 0 := by omega
      have hx2 : x % (n : Int) = m := hm.symm
      clear h7 h8 hm
      generalize t[m]?.getD false = y at *
      go_wp2
      go_roundw
      case rel => exact ⟨k + 1, t.set m true, by omega, by go_num, by simpa using ht1, by simpa using ht2, HO.set true, G1.setCell h5 _⟩
      case measure => simp [intOf]; omega
    · obtain rfl : k = l.length := by omega
      have e1 : decide ((l.length : Int) < l.length) = false := by simp
      go_wp2
      go_ret
      exact ⟨_, n, n, t, rfl, hn1, hn2, by omega, HO, G1⟩
end Go.Proofs.Ytkkhcpddpnhemaa
