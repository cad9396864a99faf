/-
  Walks: new tabs.
-/
import Derived.Test.YtkkhcpddpnhemaaRows
import Derived.Test.YtkkhcpddpnhemaaLt
import Derived.Test.YtkkhcpddpnhemaaDefs
import Derived.Test.YtkkhcpddpnhemaaOwn
import Derived.WalkKit
import Derived.OwnWalk
import Derived.WalkSpells
import Derived.WalkLawsBesides
import Derived.Handy
import Derived.Outline
import Derived.Lib.Hide
import Derived.Deep.Light
import Derived.Deep.LoopGhost
import Derived.BigGuardPart
import Derived.BigQuiet
import Derived.Deep.QuietTactic
import Derived.Deep.DeepCutAuto
import Derived.Test.YtkkhcpddpnhemaaReg
namespace Go.Proofs.Ytkkhcpddpnhemaa
open Go.RowKit


theorem info4 : (Try.prog.info? 4).map (fun i => (i.zero, i.size, i.bytes)) = some (some (.bool false), 1, 1) := by kernel_rfl
/-- The stops of new tabs, those below p. -/
def newT (n p : Nat) : List Bool := (List.range n).map fun i => decide (0 < i) && decide (i % 8 = 0) && decide (i < p)
def newL (n : Nat) : List Bool := (List.range n).map fun i => decide (0 < i) && decide (i % 8 = 0)
@[simp] theorem newT_length (n p : Nat) : (newT n p).length = n := by simp [newT]
@[simp] theorem newL_length (n : Nat) : (newL n).length = n := by simp [newL]
theorem newT_8 (n : Nat) : List.replicate n false = newT n 8 := by
  apply List.ext_getElem
  · simp
  · intro i h1 h2
    simp [newT]
    omega
theorem newT_all {n p : Nat} (h : n ≤ p) : newT n p = newL n := by
  apply List.ext_getElem
  · simp
  · intro i h1 h2
    simp at h2
    simp [newT, newL]
    omega
theorem newT_set {n p : Nat} (hp : p % 8 = 0) (h0 : 0 < p) : (newT n p).set p true = newT n (p + 8) := by
  apply List.ext_getElem
  · simp
  · intro i h1 h2
    simp at h2
    simp only [newT, List.getElem_set, List.getElem_map, List.getElem_range]
    by_cases hip : p = i
    · subst hip
      simp [hp, h0]
    · rw [if_neg hip, Bool.eq_iff_iff]
      simp
      omega

set_option maxHeartbeats 1000000 in
theorem new_ok (n : Nat) (w : World) (h1 : 2 ≤ n) (h2 : n ≤ 80) : Calls Try.prog 26 #[.int .i64 n] w fun e w' => ∃ a cap, e = .returned (.tuple #[.slice a n cap, .int .i64 0]) ∧ Own w.heap.size w' a (newL n) ∧ Grows w w' := by
  obtain ⟨i0, hi, hz0, hz1, hz2⟩ := info_parts info4
  have e1 : decide ((n : Int) < 2) = false := by simp; omega
  have e2 : decide (80 < (n : Int)) = false := by simp; omega
  go_enter Try.func26, Try.ntmps26
  go_wp2_with (refine wpList_make_full _ rfl (.tmp 12) (.tmp 12) 23 rfl w.heap.size 4 i0 (.bool false) 1 Try.underlying23 hi hz0 hz1 .i64 .i64 n n n rfl rfl rfl rfl (by rw [hz2]; omega) (by unfold maxLen; omega) (Nat.le_refl _) ?_; intro w1 hown hgrow)
  have HO : Own w.heap.size w1 (some ⟨w.heap.size, 0, none⟩) (newT n 8) := by
    obtain ⟨g, cap, e, _, ho⟩ := ownC_of_row hown (by omega)
    cases e
    rw [← newT_8]
    unfold Own
    rw [← made_bools]
    exact ho
  have G1 : Grows w w1 := Grows.of_grownBy hgrow (by simp)
  clear hown hgrow hi hz0 hz1 hz2
  go_loopw [5] (fun i wr => ∃ p : Nat, p ≤ n + 7 ∧ 8 ≤ p ∧ Hid (p % 8 = 0) ∧ i = .int .i64 p ∧ Own w.heap.size wr (some ⟨w.heap.size, 0, none⟩) (newT n p) ∧ Grows w wr) (fun i _ => n + 8 - (intOf i).toNat)
  case atStart => exact ⟨8, by omega, by omega, Lib.hid rfl, rfl, HO, G1⟩
  case round =>
    clear HO G1
    obtain ⟨p, hp1, hp2, hp8, rfl, HO, G1⟩ := hrel
    by_cases hlt : p < n
    · obtain ⟨h5, h6, h7, h8⟩ := Own.at HO
      have c1 := h7 p (by simpa using hlt)
      have f1 := h8 p
      clear h7 h8
      go_wp2
      go_roundw
      case rel => exact ⟨p + 8, by omega, by omega, Lib.hid (by have := hp8.out; omega), by go_num, by rw [← newT_set hp8.out (by omega)]; exact HO.set true, G1.setCell h5 _⟩
      case measure => simp [intOf]; omega
    · have e3 : decide ((p : Int) < n) = false := by simp; omega
      have HL : Own w.heap.size wr (some ⟨w.heap.size, 0, none⟩) (newL n) := by rw [← newT_all (p := p) (by omega)]; exact HO
      clear HO
      go_wp2
      go_ret2
      exact ⟨_, _, rfl, HL, G1⟩
theorem new_no (c : Int) (w : World) (h : ¬ (2 ≤ c ∧ c ≤ 80)) : Calls Try.prog 26 #[.int .i64 c] w fun e w' => e = .returned (.tuple #[.slice none 0 0, .int .i64 2]) ∧ w = w' := by
  have h1 : c < 2 ∨ (2 ≤ c ∧ 80 < c) := by omega
  clear h
  rcases h1 with h1 | ⟨h1, h2⟩
  · have e1 : decide (c < 2) = true := by simp; omega
    clear h1
    go_enter Try.func26, Try.ntmps26
    go_wp2
    go_ret2
    exact ⟨rfl, rfl⟩
  · have e1 : decide (c < 2) = false := by simp; omega
    have e2 : decide (80 < c) = true := by simp; omega
    clear h1 h2
    go_enter Try.func26, Try.ntmps26
    go_wp2
    go_ret2
    exact ⟨rfl, rfl⟩
theorem rnew_no (c : Int) (w : World) (h : ¬ (2 ≤ c ∧ c ≤ 80)) : Calls Try.prog 27 #[.int .i64 c] w fun e w' => e = .returned (.tuple #[.slice none 0 0, .int .i64 2]) ∧ w = w' := by
  have h1 : c < 2 ∨ (2 ≤ c ∧ 80 < c) := by omega
  clear h
  rcases h1 with h1 | ⟨h1, h2⟩
  · have e1 : decide (c < 2) = true := by simp; omega
    clear h1
    go_enter Try.func27, Try.ntmps27
    go_wp2
    go_ret2
    exact ⟨rfl, rfl⟩
  · have e1 : decide (c < 2) = false := by simp; omega
    have e2 : decide (80 < c) = true := by simp; omega
    clear h1 h2
    go_enter Try.func27, Try.ntmps27
    go_wp2
    go_ret2
    exact ⟨rfl, rfl⟩
/-- What the reference's loop has appended after k rounds. -/
def firstL (k : Nat) : List Value := (newL k).map Value.bool
@[simp] theorem firstL_length (k : Nat) : (firstL k).length = k := by simp [firstL]
theorem firstL_succ (k : Nat) : firstL (k + 1) = firstL k ++ [.bool (decide (0 < k) && decide (k % 8 = 0))] := by
  simp [firstL, newL, List.range_succ]
theorem cell_one_new (w : World) (v : Value) (t : TypeId) : ∀ (j : Nat) (u : Value), [v][j]? = some u → (w.alloc (.cells #[v] t)).cell? ((⟨w.heap.size, 0, none⟩ : Addr).add j) = some u := by
  intro j u hj
  match j, hj with
  | 0, hj => simp at hj; subst hj; simp [Addr.add]
set_option maxHeartbeats 1000000 in
theorem rnew_ok (n : Nat) (w : World) (h1 : 2 ≤ n) (h2 : n ≤ 80) : Calls Try.prog 27 #[.int .i64 n] w fun e w' => ∃ a cap, e = .returned (.tuple #[.slice a n cap, .int .i64 0]) ∧ Own w.heap.size w' a (newL n) ∧ Grows w w' := by
  obtain ⟨i0, hi, hz0, hz1, hz2⟩ := info_parts info4
  have e1 : decide ((n : Int) < 2) = false := by simp; omega
  have e2 : decide (80 < (n : Int)) = false := by simp; omega
  go_enter Try.func27, Try.ntmps27
  go_wp2
  go_loopw [4, 5] (fun v i wr => ∃ k : Nat, k ≤ n ∧ i = .int .i64 k ∧ wr.ownsRow w.heap.size 4 1 v k (firstL k) ∧ Below w.heap.size w wr) (fun _ i _ => n - (intOf i).toNat)
  case atStart => exact ⟨0, by omega, rfl, World.ownsRow_nil _ _ _ _, Below.refl _ _⟩
  case round =>
    obtain ⟨k, hk, rfl, hown, hb⟩ := hrel
    have hsz := hb.size
    by_cases hlt : k < n
    · have HS := Lib.hid (firstL_succ k)
      by_cases hk0 : 0 < k
      · have e3 : decide (0 < (k : Int)) = true := by simp; omega
        obtain ⟨x, hx⟩ : ∃ x, x = decide (k % 8 = 0) := ⟨_, rfl⟩
        have HX := Lib.hid hx
        have e5 : (((k : Int) % 8) == 0) = x := by rw [hx, Bool.eq_iff_iff]; simp; omega
        have e6 : decide (((k : Int) % 8) = 0) = x := by rw [hx, Bool.eq_iff_iff]; simp; omega
        clear hx
        go_wp2_with (at_builtin; refine wpList_append_own _ rfl (.tmp 17) (.tmp 25) 23 rfl w.heap.size 4 i0 (.bool false) 1 1 Try.underlying23 hi hz0 hz1 hz2 rfl (by decide) _ _ _ rfl (hown.alloc _) ⟨wr.heap.size, 0, none⟩ 1 1 [.bool x] rfl rfl (cell_one_new _ _ _) (by simp [Value.oneCell']) (by unfold maxLen; omega) (by omega) (by simp; omega) ?_; intro v' w1 hown' hgrow _)
        have hb1 := (hb.alloc hsz (.cells #[.bool x] 4)).grown hgrow (by simp; omega) (fun q e => (hown.lt q e).1)
        clear hgrow hown hb
        go_wp2
        go_roundw
        case rel => exact ⟨k + 1, by omega, by go_num, by rw [HS.out, ← HX.out, decide_eq_true (by omega), Bool.true_and]; exact hown', hb1⟩
        case measure => simp [intOf]; omega
      · obtain rfl : k = 0 := by omega
        go_wp2_with (at_builtin; refine wpList_append_own _ rfl (.tmp 17) (.tmp 25) 23 rfl w.heap.size 4 i0 (.bool false) 1 1 Try.underlying23 hi hz0 hz1 hz2 rfl (by decide) _ _ _ rfl (hown.alloc _) ⟨wr.heap.size, 0, none⟩ 1 1 [.bool false] rfl rfl (cell_one_new _ _ _) (by simp [Value.oneCell']) (by unfold maxLen; omega) (by omega) (by simp; omega) ?_; intro v' w1 hown' hgrow _)
        have hb1 := (hb.alloc hsz (.cells #[.bool false] 4)).grown hgrow (by simp; omega) (fun q e => (hown.lt q e).1)
        clear hgrow hown hb
        go_wp2
        go_roundw
        case rel => exact ⟨0 + 1, by omega, by go_num, by rw [HS.out]; exact hown', hb1⟩
        case measure => simp [intOf]; omega
    · obtain rfl : k = n := by omega
      have e3 : decide ((k : Int) < k) = false := by simp
      obtain ⟨g, cap, rfl, hc, ho⟩ := ownC_of_row hown (by omega)
      clear hown
      go_wp2
      go_ret2
      exact ⟨_, _, rfl, ho, Grows.of_below hb⟩
end Go.Proofs.Ytkkhcpddpnhemaa
