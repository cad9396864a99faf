/-
  The functions at every argument.
-/
import Derived.Test.YtkkhcpddpnhemaaRows
import Derived.Test.YtkkhcpddpnhemaaLt
import Derived.Test.YtkkhcpddpnhemaaDefs
import Derived.Test.YtkkhcpddpnhemaaOwn
import Derived.Test.YtkkhcpddpnhemaaVis
import Derived.Test.YtkkhcpddpnhemaaW1
import Derived.Test.YtkkhcpddpnhemaaW2
import Derived.Test.YtkkhcpddpnhemaaW3
import Derived.Test.YtkkhcpddpnhemaaW4
import Derived.Test.YtkkhcpddpnhemaaW5
import Derived.Test.YtkkhcpddpnhemaaW6
import Derived.Test.YtkkhcpddpnhemaaW7
import Derived.Test.YtkkhcpddpnhemaaW11
import Derived.Test.YtkkhcpddpnhemaaW12
import Derived.Test.YtkkhcpddpnhemaaW13
import Derived.WalkKit
import Derived.OwnWalk
import Derived.WalkSpells
import Derived.WalkLawsBesides
import Derived.Handy
import Derived.Outline
import Derived.Lib.Hide
import Derived.Deep.Light
import Derived.Deep.LoopGhost
import Derived.BigGuardPart
import Derived.BigQuiet
import Derived.Deep.QuietTactic
import Derived.Deep.DeepCutAuto
import Derived.Test.YtkkhcpddpnhemaaReg
namespace Go.Proofs.Ytkkhcpddpnhemaa
open Go.RowKit


def nOk (n : Nat) (col k : Int) : Prop := 2 ≤ n ∧ n ≤ 80 ∧ 0 ≤ col ∧ col < n ∧ 0 ≤ k
open Classical in
noncomputable def nV (l : List Bool) (n : Nat) (col k : Int) : Int := if nOk n col k then nxt l k.toNat col.toNat else 0
open Classical in
noncomputable def bV (l : List Bool) (n : Nat) (col k : Int) : Int := if nOk n col k then bck l k.toNat col.toNat else 0

theorem next_tot (a : Option Addr) (n cap : Nat) (l : List Bool) (hl : l.length = n) (hn : n ≤ 90) (col k : Int) (hk : k < 9223372036854775808) (w : World) (ha : Bs w a l) : Calls Try.prog 11 #[.slice a n cap, .int .i64 col, .int .i64 k] w (Ret (.tuple #[.int .i64 (nV l n col k), .int .i64 (mErr n col k)]) w) := by
  by_cases h : nOk n col k
  · have h' := h
    obtain ⟨h1, h2, h3, h4, h5⟩ := h'
    rw [nV, if_pos h, mErr_ok ⟨h1, h2⟩ ⟨h3, h4, h5⟩]
    obtain ⟨c, rfl⟩ := Int.eq_ofNat_of_zero_le h3
    obtain ⟨m, rfl⟩ := Int.eq_ofNat_of_zero_le h5
    have := next_ok a n cap c m l hl w ha ⟨h1, h2⟩ (by omega) (by omega)
    exact this.mono fun e w' ⟨e1, e2⟩ => ⟨e1, e2⟩
  · rw [nV, if_neg h]
    have := next_no a n cap col k w h (by omega)
    exact this.mono fun e w' ⟨e1, e2⟩ => ⟨e1, e2⟩

theorem rnext_tot (a : Option Addr) (n cap : Nat) (l : List Bool) (hl : l.length = n) (_hn : n ≤ 90) (col k : Int) (hk : k < 9223372036854775808) (w : World) (ha : Bs w a l) : Calls Try.prog 12 #[.slice a n cap, .int .i64 col, .int .i64 k] w (Ret (.tuple #[.int .i64 (nV l n col k), .int .i64 (mErr n col k)]) w) := by
  by_cases h : nOk n col k
  · have h' := h
    obtain ⟨h1, h2, h3, h4, h5⟩ := h'
    rw [nV, if_pos h, mErr_ok ⟨h1, h2⟩ ⟨h3, h4, h5⟩]
    obtain ⟨c, rfl⟩ := Int.eq_ofNat_of_zero_le h3
    obtain ⟨m, rfl⟩ := Int.eq_ofNat_of_zero_le h5
    have := rnext_ok a n cap c m l hl w ha ⟨h1, h2⟩ (by omega) (by omega)
    exact this.mono fun e w' ⟨e1, e2⟩ => ⟨e1, e2 ▸ Grows.refl w⟩
  · rw [nV, if_neg h]
    have := rnext_no a n cap col k w h
    exact this.mono fun e w' ⟨e1, e2⟩ => ⟨e1, e2 ▸ Grows.refl w⟩

theorem back_tot (a : Option Addr) (n cap : Nat) (l : List Bool) (hl : l.length = n) (hn : n ≤ 90) (col k : Int) (hk : k < 9223372036854775808) (w : World) (ha : Bs w a l) : Calls Try.prog 13 #[.slice a n cap, .int .i64 col, .int .i64 k] w (Ret (.tuple #[.int .i64 (bV l n col k), .int .i64 (mErr n col k)]) w) := by
  by_cases h : nOk n col k
  · have h' := h
    obtain ⟨h1, h2, h3, h4, h5⟩ := h'
    rw [bV, if_pos h, mErr_ok ⟨h1, h2⟩ ⟨h3, h4, h5⟩]
    obtain ⟨c, rfl⟩ := Int.eq_ofNat_of_zero_le h3
    obtain ⟨m, rfl⟩ := Int.eq_ofNat_of_zero_le h5
    have := back_ok a n cap c m l hl w ha ⟨h1, h2⟩ (by omega) (by omega)
    exact this.mono fun e w' ⟨e1, e2⟩ => ⟨e1, e2⟩
  · rw [bV, if_neg h]
    have := back_no a n cap col k w h (by omega)
    exact this.mono fun e w' ⟨e1, e2⟩ => ⟨e1, e2⟩

theorem rback_tot (a : Option Addr) (n cap : Nat) (l : List Bool) (hl : l.length = n) (_hn : n ≤ 90) (col k : Int) (hk : k < 9223372036854775808) (w : World) (ha : Bs w a l) : Calls Try.prog 14 #[.slice a n cap, .int .i64 col, .int .i64 k] w (Ret (.tuple #[.int .i64 (bV l n col k), .int .i64 (mErr n col k)]) w) := by
  by_cases h : nOk n col k
  · have h' := h
    obtain ⟨h1, h2, h3, h4, h5⟩ := h'
    rw [bV, if_pos h, mErr_ok ⟨h1, h2⟩ ⟨h3, h4, h5⟩]
    obtain ⟨c, rfl⟩ := Int.eq_ofNat_of_zero_le h3
    obtain ⟨m, rfl⟩ := Int.eq_ofNat_of_zero_le h5
    have := rback_ok a n cap c m l hl w ha ⟨h1, h2⟩ (by omega) (by omega)
    exact this.mono fun e w' ⟨e1, e2⟩ => ⟨e1, e2 ▸ Grows.refl w⟩
  · rw [bV, if_neg h]
    have := rback_no a n cap col k w h
    exact this.mono fun e w' ⟨e1, e2⟩ => ⟨e1, e2 ▸ Grows.refl w⟩

/-- A call that returns a slice of bools and an error. -/
def RetL (L : List Bool) (er : Int) (w : World) (e : Ending) (w' : World) : Prop := ∃ b c, e = .returned (.tuple #[.slice b L.length c, .int .i64 er]) ∧ Bs w' b L ∧ Grows w w'
theorem retL_nil {er : Int} {w : World} {e : Ending} {w' : World} (h : e = .returned (.tuple #[.slice none 0 0, .int .i64 er]) ∧ w = w') : RetL [] er w e w' := ⟨none, 0, h.1, .inl rfl, h.2 ▸ Grows.refl w⟩
theorem retL_own {L : List Bool} {n : Nat} {base : Nat} {er : Int} {w : World} {e : Ending} {w' : World} (hL : L.length = n) (h : ∃ b c, e = .returned (.tuple #[.slice b n c, .int .i64 er]) ∧ Own base w' b L ∧ Grows w w') : RetL L er w e w' := by
  obtain ⟨b, c, h1, h2, h3⟩ := h
  exact ⟨b, c, by rw [hL]; exact h1, h2.bs, h3⟩
open Classical in
noncomputable def sL (l : List Bool) (n : Nat) (col : Int) (on : Bool) : List Bool := if 2 ≤ n ∧ n ≤ 80 ∧ 0 ≤ col ∧ col < n then l.set col.toNat on else []
open Classical in
noncomputable def zL (n : Nat) : List Bool := if 2 ≤ n ∧ n ≤ 80 then List.replicate n false else []
open Classical in
noncomputable def rL (l : List Bool) (n : Nat) (c : Int) : List Bool := if 2 ≤ n ∧ n ≤ 80 ∧ 2 ≤ c ∧ c ≤ 80 then rsL l c.toNat else []
def rErr (n : Nat) (c : Int) : Int := if 2 ≤ n ∧ n ≤ 80 then (if 2 ≤ c ∧ c ≤ 80 then 0 else 2) else 240
open Classical in
noncomputable def nL (c : Int) : List Bool := if 2 ≤ c ∧ c ≤ 80 then newL c.toNat else []
def nErr (c : Int) : Int := if 2 ≤ c ∧ c ≤ 80 then 0 else 2
theorem sL_length (l : List Bool) (n : Nat) (hl : l.length = n) (hn : n ≤ 90) (col : Int) (on : Bool) : (sL l n col on).length ≤ 1000 := by
  unfold sL
  split <;> simp <;> omega
theorem zL_length (n : Nat) (hn : n ≤ 90) : (zL n).length ≤ 1000 := by
  unfold zL
  split <;> simp <;> omega
theorem rL_length (l : List Bool) (n : Nat) (c : Int) : (rL l n c).length ≤ 1000 := by
  unfold rL
  split <;> simp <;> omega
theorem nL_length (c : Int) : (nL c).length ≤ 1000 := by
  unfold nL
  split <;> simp <;> omega

theorem set_tot (a : Option Addr) (n cap : Nat) (l : List Bool) (hl : l.length = n) (col : Int) (on : Bool) (w : World) (ha : Bs w a l) : Calls Try.prog 19 #[.slice a n cap, .int .i64 col, .bool on] w (RetL (sL l n col on) (wErr n col) w) := by
  by_cases h : 2 ≤ n ∧ n ≤ 80 ∧ 0 ≤ col ∧ col < n
  · rw [sL, if_pos h]
    obtain ⟨h1, h2, h3, h4⟩ := h
    rw [wErr_ok ⟨h1, h2⟩ ⟨h3, h4⟩]
    obtain ⟨c, rfl⟩ := Int.eq_ofNat_of_zero_le h3
    exact (set_ok a n cap c on l hl w ha h1 h2 (by omega)).mono fun e w' h => retL_own (by simpa using hl) h
  · rw [sL, if_neg h]
    exact (set_no a n cap col on w h).mono fun e w' h => retL_nil h

theorem rset_tot (a : Option Addr) (n cap : Nat) (l : List Bool) (hl : l.length = n) (col : Int) (on : Bool) (w : World) (ha : Bs w a l) : Calls Try.prog 20 #[.slice a n cap, .int .i64 col, .bool on] w (RetL (sL l n col on) (wErr n col) w) := by
  by_cases h : 2 ≤ n ∧ n ≤ 80 ∧ 0 ≤ col ∧ col < n
  · rw [sL, if_pos h]
    obtain ⟨h1, h2, h3, h4⟩ := h
    rw [wErr_ok ⟨h1, h2⟩ ⟨h3, h4⟩]
    obtain ⟨c, rfl⟩ := Int.eq_ofNat_of_zero_le h3
    exact (rset_ok a n cap c on l hl w ha h1 h2 (by omega)).mono fun e w' h => retL_own (by simpa using hl) h
  · rw [sL, if_neg h]
    exact (rset_no a n cap col on w h).mono fun e w' h => retL_nil h

theorem none_tot (a : Option Addr) (n cap : Nat) (w : World) : Calls Try.prog 16 #[.slice a n cap] w (RetL (zL n) (tErr n) w) := by
  by_cases h : 2 ≤ n ∧ n ≤ 80
  · rw [zL, if_pos h, tErr_ok h]
    exact (none_ok a n cap w h).mono fun e w' h => retL_own (by simp) h
  · rw [zL, if_neg h, tErr_no h]
    exact (none_no a n cap w h).mono fun e w' h => retL_nil h

theorem rnone_tot (a : Option Addr) (n cap : Nat) (w : World) : Calls Try.prog 17 #[.slice a n cap] w (RetL (zL n) (tErr n) w) := by
  by_cases h : 2 ≤ n ∧ n ≤ 80
  · rw [zL, if_pos h, tErr_ok h]
    exact (rnone_ok a n cap w h).mono fun e w' h => retL_own (by simp) h
  · rw [zL, if_neg h, tErr_no h]
    exact (rnone_no a n cap w h).mono fun e w' h => retL_nil h

theorem resize_tot (a : Option Addr) (n cap : Nat) (l : List Bool) (hl : l.length = n) (c : Int) (w : World) (ha : Bs w a l) : Calls Try.prog 21 #[.slice a n cap, .int .i64 c] w (RetL (rL l n c) (rErr n c) w) := by
  by_cases h : 2 ≤ n ∧ n ≤ 80
  · by_cases h2 : 2 ≤ c ∧ c ≤ 80
    · rw [rL, if_pos ⟨h.1, h.2, h2.1, h2.2⟩, rErr, if_pos h, if_pos h2]
      obtain ⟨m, rfl⟩ := Int.eq_ofNat_of_zero_le (show 0 ≤ c by omega)
      exact (resize_ok a n cap m l hl w ha h (by omega)).mono fun e w' h => retL_own (by simp) h
    · rw [rL, if_neg (by omega), rErr, if_pos h, if_neg h2]
      exact (resize_c a n cap c w h h2).mono fun e w' h => retL_nil h
  · rw [rL, if_neg (by omega), rErr, if_neg h]
    exact (resize_t a n cap c w h).mono fun e w' h => retL_nil h

theorem rresize_tot (a : Option Addr) (n cap : Nat) (l : List Bool) (hl : l.length = n) (c : Int) (w : World) (ha : Bs w a l) : Calls Try.prog 22 #[.slice a n cap, .int .i64 c] w (RetL (rL l n c) (rErr n c) w) := by
  by_cases h : 2 ≤ n ∧ n ≤ 80
  · by_cases h2 : 2 ≤ c ∧ c ≤ 80
    · rw [rL, if_pos ⟨h.1, h.2, h2.1, h2.2⟩, rErr, if_pos h, if_pos h2]
      obtain ⟨m, rfl⟩ := Int.eq_ofNat_of_zero_le (show 0 ≤ c by omega)
      exact (rresize_ok a n cap m l hl w ha h (by omega)).mono fun e w' h => retL_own (by simp) h
    · rw [rL, if_neg (by omega), rErr, if_pos h, if_neg h2]
      exact (rresize_c a n cap c w h h2).mono fun e w' h => retL_nil h
  · rw [rL, if_neg (by omega), rErr, if_neg h]
    exact (rresize_t a n cap c w h).mono fun e w' h => retL_nil h

theorem new_tot (c : Int) (w : World) : Calls Try.prog 26 #[.int .i64 c] w (RetL (nL c) (nErr c) w) := by
  by_cases h2 : 2 ≤ c ∧ c ≤ 80
  · rw [nL, if_pos h2, nErr, if_pos h2]
    obtain ⟨m, rfl⟩ := Int.eq_ofNat_of_zero_le (show 0 ≤ c by omega)
    exact (new_ok m w (by omega) (by omega)).mono fun e w' h => retL_own (by simp) h
  · rw [nL, if_neg h2, nErr, if_neg h2]
    exact (new_no c w h2).mono fun e w' h => retL_nil h

theorem rnew_tot (c : Int) (w : World) : Calls Try.prog 27 #[.int .i64 c] w (RetL (nL c) (nErr c) w) := by
  by_cases h2 : 2 ≤ c ∧ c ≤ 80
  · rw [nL, if_pos h2, nErr, if_pos h2]
    obtain ⟨m, rfl⟩ := Int.eq_ofNat_of_zero_le (show 0 ≤ c by omega)
    exact (rnew_ok m w (by omega) (by omega)).mono fun e w' h => retL_own (by simp) h
  · rw [nL, if_neg h2, nErr, if_neg h2]
    exact (rnew_no c w h2).mono fun e w' h => retL_nil h

theorem rsame_eq (a b : Option Addr) (ca cb : Nat) (l : List Bool) (w : World) (ha : Bs w a l) (hb : Bs w b l) (h1 : l.length ≤ 1000) : Calls Try.prog 18 #[.slice a l.length ca, .slice b l.length cb] w (Ret (.bool true) w) := by
  have := rsame_any a b ca cb l l w ha hb h1 h1
  rwa [decide_eq_true rfl] at this
/-- One of three slices of bools. -/
theorem index24 {W : World} (a1 a2 a3 : Option Addr) (n1 n2 n3 c1 c2 c3 : Nat) (l1 l2 l3 : List Bool) (h1 : Bs W a1 l1) (h2 : Bs W a2 l2) (h3 : Bs W a3 l3) (e1 : l1.length = n1) (e2 : l2.length = n2) (e3 : l3.length = n3) (b1 : n1 ≤ 90) (b2 : n2 ≤ 90) (b3 : n3 ≤ 90) (k : Nat) (hk : k < 3) :
    ∃ a n c l, Bs W a l ∧ l.length = n ∧ n ≤ 90 ∧ ∀ w, (Instr.index 24 (.agg #[.slice a1 n1 c1, .slice a2 n2 c2, .slice a3 n3 c3]) (.int .i64 k)).run Try.prog w = .ok (.slice a n c) w := by
  have hk : k = 0 ∨ k = 1 ∨ k = 2 := by omega
  rcases hk with rfl | rfl | rfl
  · exact ⟨a1, n1, c1, l1, h1, e1, b1, fun w => by kernel_rfl⟩
  · exact ⟨a2, n2, c2, l2, h2, e2, b2, fun w => by kernel_rfl⟩
  · exact ⟨a3, n3, c3, l3, h3, e3, b3, fun w => by kernel_rfl⟩
theorem index27 (x y : Int) (k : Nat) (hk : k < 2) : ∃ z, (z = x ∨ z = y) ∧ ∀ w, (Instr.index 27 (.agg #[.int .i64 x, .int .i64 y]) (.int .i64 k)).run Try.prog w = .ok (.int .i64 z) w := by
  have hk : k = 0 ∨ k = 1 := by omega
  rcases hk with rfl | rfl
  · exact ⟨x, .inl rfl, fun w => by kernel_rfl⟩
  · exact ⟨y, .inr rfl, fun w => by kernel_rfl⟩
theorem index28 (x y u : Int) (k : Nat) (hk : k < 3) : ∃ z, (z = x ∨ z = y ∨ z = u) ∧ ∀ w, (Instr.index 28 (.agg #[.int .i64 x, .int .i64 y, .int .i64 u]) (.int .i64 k)).run Try.prog w = .ok (.int .i64 z) w := by
  have hk : k = 0 ∨ k = 1 ∨ k = 2 := by omega
  rcases hk with rfl | rfl | rfl
  · exact ⟨x, .inl rfl, fun w => by kernel_rfl⟩
  · exact ⟨y, .inr (.inl rfl), fun w => by kernel_rfl⟩
  · exact ⟨u, .inr (.inr rfl), fun w => by kernel_rfl⟩
end Go.Proofs.Ytkkhcpddpnhemaa
