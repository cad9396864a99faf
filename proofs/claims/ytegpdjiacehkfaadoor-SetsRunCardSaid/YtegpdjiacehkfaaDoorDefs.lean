/-
  Plain definitions for the seat of layer 15 (sets), no program in sight.
-/
import Derived.Test.YtegpdjiacehkfaaDoorExt
namespace Go.Proofs.YtegpdjiacehkfaaDoor
open Go.RowKit

def ok01 (x : Int) : Bool := x == 0 || x == 1
def rightB (a b c d u o : Int) : Bool := ok01 a && ok01 b && ok01 c && ok01 d && (ok01 u && (o == 0 || o == 2 || o == 3))
def upto (k : Nat) (a b c d : Int) : Prop := (0 < k → ok01 a = true) ∧ (1 < k → ok01 b = true) ∧ (2 < k → ok01 c = true) ∧ (3 < k → ok01 d = true)
def errS (b : Bool) : Int := if b then 0 else 250
@[simp] theorem errS_true : errS true = 0 := rfl
@[simp] theorem errS_false : errS false = 250 := rfl

theorem ok01_iff {x : Int} : ok01 x = true ↔ x = 0 ∨ x = 1 := by simp [ok01]
theorem ok01_false {x : Int} : ok01 x = false ↔ ¬ (x = 0 ∨ x = 1) := by rw [← ok01_iff, Bool.not_eq_true]
theorem rightB_iff {a b c d u o : Int} : rightB a b c d u o = true ↔ (a = 0 ∨ a = 1) ∧ (b = 0 ∨ b = 1) ∧ (c = 0 ∨ c = 1) ∧ (d = 0 ∨ d = 1) ∧ (u = 0 ∨ u = 1) ∧ (o = 0 ∨ o = 2 ∨ o = 3) := by
  simp only [rightB, Bool.and_eq_true, ok01_iff, Bool.or_eq_true, beq_iff_eq]
  constructor
  · rintro ⟨⟨⟨⟨h1, h2⟩, h3⟩, h4⟩, h5, h6⟩; exact ⟨h1, h2, h3, h4, h5, by omega⟩
  · rintro ⟨h1, h2, h3, h4, h5, h6⟩; exact ⟨⟨⟨⟨h1, h2⟩, h3⟩, h4⟩, h5, by omega⟩

/-- The new one at the place that is meant, else the old one. -/
def pk (i j k a : Int) : Int := if i = j then k else a
def onceOf (q : Int) : Int := if q = 2 then 2 else if q = 3 then 3 else 0
theorem rightB_of (b : Int) (_h0 : 0 ≤ b) : rightB (b % 2) (b / 2 % 2) (b / 4 % 2) (b / 8 % 2) (b / 16 % 2) (onceOf (b / 32 % 4)) = true := by
  rw [rightB_iff]
  refine ⟨by omega, by omega, by omega, by omega, by omega, ?_⟩
  unfold onceOf
  split
  · omega
  · split <;> omega
def signsL : List Int := [32, 9670, 9618, 9225, 9228, 9229, 9226, 176, 177, 9252, 9227, 9496, 9488, 9484, 9492, 9532, 9146, 9147, 9472, 9148, 9149, 9500, 9508, 9524, 9516, 9474, 8804, 8805, 960, 8800, 163, 183]
def signAt (k : Nat) : Int := signsL.getD k 0
def lineOf (cp : Int) : Int := if 95 ≤ cp ∧ cp < 127 then signAt (cp - 95).toNat else cp
theorem lineOf_out {cp : Int} (h : ¬ (95 ≤ cp ∧ cp < 127)) : lineOf cp = cp := if_neg h
theorem lineOf_in {k : Nat} (h : k < 32) : lineOf ((k : Int) + 95) = signAt k := by
  unfold lineOf
  rw [if_pos (by omega)]
  congr 1
  omega
/-- What the sets at a number are. -/
def gAt (a b c d n : Int) : Int := if n = 0 then a else if n = 1 then b else if n = 2 then c else d
def lineB (a b c d u o : Int) : Bool := gAt a b c d (if o = 0 then u else o) == 1
def signOf (a b c d u o cp : Int) : Int := if lineB a b c d u o then lineOf cp else cp
def signsA : Array Value := (signsL.map fun z => Value.int .i64 z).toArray
/-- The table of the program lies in block 0. -/
def SG (w : World) : Prop := ∃ t fr, w.heap[0]? = some (.cells signsA t fr)
theorem SG.pos {w : World} (h : SG w) : 0 < w.heap.size := by
  obtain ⟨t, fr, h⟩ := h
  rcases Nat.lt_or_ge 0 w.heap.size with h' | h'
  · exact h'
  · rw [Array.getElem?_eq_none h'] at h; cases h
theorem signsA_at (k : Nat) (hk : k < 32) : signsA[k]? = some (.int .i64 (signAt k)) := by
  have h : signsA.size = 32 := rfl
  have hl : signsL.length = 32 := rfl
  simp [signsA, signAt, List.getD, hl, hk]
theorem SG.cell {w : World} (h : SG w) (k : Nat) (hk : k < 32) : w.cell? ⟨0, k, none⟩ = some (.int .i64 (signAt k)) := by
  obtain ⟨t, fr, h⟩ := h
  rw [cell_of_row w 0 k signsA t fr h, signsA_at k hk]
theorem SG.grows {w w' : World} (h : SG w) (g : Grows w w') : SG w' := by
  have hp := h.pos
  obtain ⟨t, fr, h⟩ := h
  exact ⟨t, fr, (g.below.block 0 hp).trans h⟩
theorem signAt_inj : ∀ i j : Nat, i < 32 → j < 32 → signAt i = signAt j → i = j := by
  have : ∀ i : Fin 32, ∀ j : Fin 32, signAt i = signAt j → i = j := by decide
  intro i j hi hj h
  exact congrArg Fin.val (this ⟨i, hi⟩ ⟨j, hj⟩ h)
/-- The numbers of a 64-bit int. -/
def In64 (n : Int) : Prop := -9223372036854775808 ≤ n ∧ n < 9223372036854775808

theorem andNot_zero_iff (x : BitVec 64) : (x &&& ~~~(1#64)).toNat = 0 ↔ x.toNat < 2 := by
  have h3 : (~~~(1#64)).toNat = 18446744073709551614 := by decide
  rw [BitVec.toNat_and, h3]
  constructor
  · intro h
    have h4 : (x.toNat &&& 18446744073709551614) >>> 1 = 0 := by rw [h]; rfl
    rw [Nat.shiftRight_and_distrib] at h4
    have h5 : (18446744073709551614 : Nat) >>> 1 = 2 ^ 63 - 1 := by decide
    rw [h5, Nat.and_two_pow_sub_one_eq_mod, Nat.shiftRight_eq_div_pow] at h4
    have := x.isLt
    omega
  · intro h
    have : x.toNat = 0 ∨ x.toNat = 1 := by omega
    rcases this with h | h <;> rw [h] <;> decide
theorem andNot_one {u : Int} (h : In64 u) : (bits .andNot .i64 u 1 != 0) = !(ok01 u) := by
  obtain ⟨h1, h2⟩ := h
  have hk := andNot_zero_iff (BitVec.ofInt 64 u)
  have hx : (BitVec.ofInt 64 u).toNat = (u % 18446744073709551616).toNat := by simp [BitVec.toNat_ofInt]
  have hlt := (BitVec.ofInt 64 u &&& ~~~(1#64)).isLt
  have e : bits .andNot .i64 u 1 = IntKind.i64.wrap ((BitVec.ofInt 64 u &&& ~~~(1#64)).toNat) := rfl
  rw [hx] at hk
  rw [e, Bool.eq_iff_iff, bne_iff_ne]
  simp only [Bool.not_eq_true', ← Bool.not_eq_true, ok01_iff]
  generalize (BitVec.ofInt 64 u &&& ~~~(1#64)).toNat = n at *
  have hw : IntKind.i64.wrap (n : Int) = 0 ↔ n = 0 := by
    simp only [IntKind.wrap, IntKind.bits, IntKind.signed]
    simp
    split <;> omega
  rw [ne_eq, hw, hk]
  omega
end Go.Proofs.YtegpdjiacehkfaaDoor
