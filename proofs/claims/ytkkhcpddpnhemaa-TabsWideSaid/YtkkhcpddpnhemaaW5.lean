/-
  Walks: Set.
-/
import Derived.Test.YtkkhcpddpnhemaaRows
import Derived.Test.YtkkhcpddpnhemaaLt
import Derived.Test.YtkkhcpddpnhemaaDefs
import Derived.Test.YtkkhcpddpnhemaaOwn
import Derived.Test.YtkkhcpddpnhemaaW1
import Derived.Test.YtkkhcpddpnhemaaW2
import Derived.Test.YtkkhcpddpnhemaaW3
import Derived.Test.YtkkhcpddpnhemaaW4
import Derived.WalkKit
import Derived.OwnWalk
import Derived.WalkSpells
import Derived.WalkLawsBesides
import Derived.Handy
import Derived.Outline
import Derived.Lib.Hide
import Derived.Deep.Light
import Derived.Deep.LoopGhost
import Derived.BigGuardPart
import Derived.BigQuiet
import Derived.Deep.QuietTactic
import Derived.Deep.DeepCutAuto
import Derived.Test.YtkkhcpddpnhemaaReg
namespace Go.Proofs.Ytkkhcpddpnhemaa
open Go.RowKit


theorem wErr_ne {n : Nat} {col : Int} (h : ¬ (2 ≤ n ∧ n ≤ 80 ∧ 0 ≤ col ∧ col < n)) : wErr n col = 240 ∨ wErr n col = 2 := by
  unfold wErr
  split
  · split
    · omega
    · exact .inr rfl
  · exact .inl rfl
theorem set_no (a : Option Addr) (n cap : Nat) (col : Int) (on : Bool) (w : World) (h : ¬ (2 ≤ n ∧ n ≤ 80 ∧ 0 ≤ col ∧ col < n)) : Calls Try.prog 19 #[.slice a n cap, .int .i64 col, .bool on] w fun e w' => e = .returned (.tuple #[.slice none 0 0, .int .i64 (wErr n col)]) ∧ w = w' := by
  have hr := wrong_any a n cap col
  rcases wErr_ne h with he | he
  all_goals
    rw [he] at hr ⊢
    have Hr := Lib.hid hr
    clear hr h he
    go_enter Try.func19, Try.ntmps19
    go_wp2_with (go_at_call 36; refine (Hr.out _).mono ?_; rintro e w' ⟨rfl, rfl⟩)
    go_ret2
    exact ⟨rfl, rfl⟩
set_option maxHeartbeats 1000000 in
theorem set_ok (a : Option Addr) (n cap c : Nat) (on : Bool) (l : List Bool) (hl : l.length = n) (w : World) (ha : Bs w a l) (h1 : 2 ≤ n) (h2 : n ≤ 80) (h3 : c < n) : Calls Try.prog 19 #[.slice a n cap, .int .i64 c, .bool on] w fun e w' => ∃ b cp, e = .returned (.tuple #[.slice b n cp, .int .i64 0]) ∧ Own w.heap.size w' b (l.set c on) ∧ Grows w w' := by
  have hr := wrong_any a n cap c
  rw [wErr_ok ⟨h1, h2⟩ ⟨by omega, by omega⟩] at hr
  have Hr := Lib.hid hr
  have Hl := Lib.hid hl
  have Hc := Lib.hid fun W (g : Grows w W) => clone_any a n cap l hl W (ha.grows g) (by omega) (by omega)
  clear hr ha hl
  go_enter Try.func19, Try.ntmps19
  go_wp2_with (first | (go_at_call 36; refine (Hr.out _).mono ?_; rintro e w' ⟨rfl, rfl⟩) | (go_at_call 37; refine (Hc.out _ (Grows.refl _)).mono ?_; rintro e w1 ⟨b, cp, rfl, HO, G1⟩; obtain ⟨g, rfl⟩ := OwnC.some HO; obtain ⟨h5, h6, h7, h8⟩ := Own.at HO; have c1 := h7 c (by have := Hl.out; omega); have f1 := h8 c; clear h7 h8))
  go_ret2
  exact ⟨_, _, rfl, HO.set on, G1.setCell h5 _⟩

theorem rset_no (a : Option Addr) (n cap : Nat) (col : Int) (on : Bool) (w : World) (h : ¬ (2 ≤ n ∧ n ≤ 80 ∧ 0 ≤ col ∧ col < n)) : Calls Try.prog 20 #[.slice a n cap, .int .i64 col, .bool on] w fun e w' => e = .returned (.tuple #[.slice none 0 0, .int .i64 (wErr n col)]) ∧ w = w' := by
  have hr := right_any a n cap
  by_cases h1 : 2 ≤ n ∧ n ≤ 80
  · rw [tOk_ok h1] at hr
    rw [wErr_c h1 (by omega)]
    have Hr := Lib.hid hr
    have hc : col < 0 ∨ (0 ≤ col ∧ (n : Int) ≤ col) := by omega
    clear hr h
    rcases hc with hc | hc
    · have e1 : decide (col < 0) = true := by simp; omega
      clear hc
      go_enter Try.func20, Try.ntmps20
      go_wp2_with (go_at_call 35; refine (Hr.out _).mono ?_; rintro e w' ⟨rfl, rfl⟩)
      go_ret2
      exact ⟨rfl, rfl⟩
    · have e1 : decide (col < 0) = false := by simp; omega
      have e2 : decide ((n : Int) ≤ col) = true := by simp; omega
      clear hc
      go_enter Try.func20, Try.ntmps20
      go_wp2_with (go_at_call 35; refine (Hr.out _).mono ?_; rintro e w' ⟨rfl, rfl⟩)
      go_ret2
      exact ⟨rfl, rfl⟩
  · rw [tOk_no h1] at hr
    rw [wErr_t h1]
    have Hr := Lib.hid hr
    clear hr h h1
    go_enter Try.func20, Try.ntmps20
    go_wp2_with (go_at_call 35; refine (Hr.out _).mono ?_; rintro e w' ⟨rfl, rfl⟩)
    go_ret2
    exact ⟨rfl, rfl⟩
theorem appended_bools {w w1 : World} {l : List Bool} {n : Nat} {v' : Value} (_hl : l.length = n) (h1 : 1 ≤ n)
    (hown' : w1.ownsRow w.heap.size 4 1 v' (0 + n) ([] ++ l.map Value.bool)) (hgrow : (w.alloc (.cells #[] 4)).grownBy w1 (Value.slice (some ⟨w.heap.size, 0, none⟩) 0 0).ownBlock) :
    ∃ g cp, v' = .slice (some ⟨g, 0, none⟩) n cp ∧ Own w.heap.size w1 (some ⟨g, 0, none⟩) l ∧ Grows w w1 := by
  have hown2 : w1.ownsRow w.heap.size 4 1 v' n (l.map Value.bool) := by
    have := hown'
    simpa using this
  obtain ⟨g, cap', rfl, hc2, ho⟩ := ownC_of_row hown2 h1
  exact ⟨g, cap', rfl, ho, Grows.of_below (((Below.refl w.heap.size w).alloc (Nat.le_refl _) _).grown hgrow (by simp) (fun k e => by have : w.heap.size = k := Option.some.inj e; omega))⟩
set_option maxHeartbeats 1000000 in
theorem rset_ok (a : Option Addr) (n cap c : Nat) (on : Bool) (l : List Bool) (hl : l.length = n) (w : World) (ha : Bs w a l) (h1 : 2 ≤ n) (h2 : n ≤ 80) (h3 : c < n) : Calls Try.prog 20 #[.slice a n cap, .int .i64 c, .bool on] w fun e w' => ∃ b cp, e = .returned (.tuple #[.slice b n cp, .int .i64 0]) ∧ Own w.heap.size w' b (l.set c on) ∧ Grows w w' := by
  have hr := right_any a n cap
  rw [tOk_ok ⟨h1, h2⟩] at hr
  have Hr := Lib.hid hr
  obtain ⟨i0, hi, hz0, hz1, hz2⟩ := info_parts info4
  obtain ⟨b, off, rfl, hb, hc⟩ := ha.at (k := 0) (by omega)
  clear ha hr
  have Hl := Lib.hid hl
  have Hc := Lib.hid hc
  clear hc hl
  have e1 : decide ((c : Int) < 0) = false := by simp
  have e2 : decide ((n : Int) ≤ c) = false := by simp; omega
  go_enter Try.func20, Try.ntmps20
  go_wp2_with (first | (go_at_call 35; refine (Hr.out _).mono ?_; rintro e w' ⟨rfl, rfl⟩) | (at_builtin; refine wpList_append_own _ rfl (.tmp 20) (.tmp 21) 23 rfl w.heap.size 4 i0 (.bool false) 1 1 Try.underlying23 hi hz0 hz1 hz2 rfl (by decide) _ _ _ rfl (World.ownsRow_made w #[] 0 (Nat.le_refl _) (by unfold maxLen; omega) (by simp)) ⟨b, off, none⟩ n cap (l.map Value.bool) rfl (by simp [Hl.out]) (cells_src Hc.out hb _) (bools_one l) (by unfold maxLen; omega) (by omega) (by simp) ?_; intro v' w1 hown' hgrow _; obtain ⟨g, cp, rfl, HO, G1⟩ := appended_bools Hl.out (by omega) hown' hgrow; obtain ⟨h5, h6, h7, h8⟩ := Own.at HO; have c1 := h7 c (by have := Hl.out; omega); have f1 := h8 c; clear h7 h8 hown' hgrow))
  go_ret2
  exact ⟨_, _, rfl, HO.set on, G1.setCell h5 _⟩
end Go.Proofs.Ytkkhcpddpnhemaa
