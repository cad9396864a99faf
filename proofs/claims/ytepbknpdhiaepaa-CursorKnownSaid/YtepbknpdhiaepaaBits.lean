/-
  Go's bit operations on int, by the numbers' bits. No program in sight.
-/
import Derived.Test.YtepbknpdhiaepaaDefs
namespace Go.Proofs.Ytepbknpdhiaepaa
open Go.RowKit
theorem w64 {n : Int} (h : In64 n) : wrap64 n = n := by unfold In64 at h; unfold wrap64; omega
theorem wrap_toNat (b : BitVec 64) : IntKind.i64.wrap (b.toNat : Int) = b.toInt := by
  rw [IntKind.wrap_i64, BitVec.toInt_eq_toNat_cond]
  have := b.isLt
  split <;> omega
theorem toInt_of {x : Int} (h : In64 x) : (BitVec.ofInt 64 x).toInt = x := by
  obtain ⟨h1, h2⟩ := h
  rw [BitVec.toInt_ofInt]
  show Int.bmod x 18446744073709551616 = x
  rw [Int.bmod_def]
  split <;> omega
theorem wrap64_toInt (x : Int) : wrap64 x = (BitVec.ofInt 64 x).toInt := by
  rw [BitVec.toInt_ofInt]
  show _ = Int.bmod x 18446744073709551616
  rw [Int.bmod_def]
  unfold wrap64
  split <;> omega
theorem ofInt_sub64 (x y : Int) : BitVec.ofInt 64 (x - y) = BitVec.ofInt 64 x - BitVec.ofInt 64 y := by
  rw [Int.sub_eq_add_neg, BitVec.ofInt_add, BitVec.ofInt_neg, BitVec.sub_eq_add_neg]
theorem and_eq (x y : Int) : bits .and .i64 x y = (BitVec.ofInt 64 x &&& BitVec.ofInt 64 y).toInt := wrap_toNat _
theorem or_eq (x y : Int) : bits .or .i64 x y = (BitVec.ofInt 64 x ||| BitVec.ofInt 64 y).toInt := wrap_toNat _
theorem xor_eq (x y : Int) : bits .xor .i64 x y = (BitVec.ofInt 64 x ^^^ BitVec.ofInt 64 y).toInt := wrap_toNat _
theorem andNot_eq (x y : Int) : bits .andNot .i64 x y = (BitVec.ofInt 64 x &&& ~~~BitVec.ofInt 64 y).toInt := wrap_toNat _
theorem of_toInt (b : BitVec 64) : BitVec.ofInt 64 b.toInt = b := BitVec.ofInt_toInt
theorem in64_toInt (b : BitVec 64) : In64 b.toInt := by
  have h1 := BitVec.two_mul_toInt_lt (x := b)
  have h2 := BitVec.le_two_mul_toInt (x := b)
  constructor <;> omega
theorem in64_bits (op : BinOp) (x y : Int) : In64 (bits op .i64 x y) := by
  unfold bits
  exact (wrap_toNat _).symm ▸ in64_toInt _
theorem ofInt_inj {x y : Int} (hx : In64 x) (hy : In64 y) (h : BitVec.ofInt 64 x = BitVec.ofInt 64 y) : x = y := by rw [← toInt_of hx, ← toInt_of hy, h]
theorem bv_split (b m : BitVec 64) : (b &&& ~~~m) + (b &&& m) = b := by
  rw [BitVec.add_eq_or_of_and_eq_zero]
  · ext i hi
    simp
    cases b[i] <;> simp
  · ext i hi
    simp
    intro _ h1 _
    exact h1
/-- &^ takes away what & finds. -/
theorem andNot_sub {a m : Int} (_ha : In64 a) : wrap64 (a - bits .and .i64 a m) = bits .andNot .i64 a m := by
  rw [wrap64_toInt, andNot_eq, and_eq]
  congr 1
  have h := bv_split (BitVec.ofInt 64 a) (BitVec.ofInt 64 m)
  have e : BitVec.ofInt 64 (a - (BitVec.ofInt 64 a &&& BitVec.ofInt 64 m).toInt) = BitVec.ofInt 64 a - (BitVec.ofInt 64 a &&& BitVec.ofInt 64 m) := by
    rw [ofInt_sub64, of_toInt]
  rw [e]
  generalize BitVec.ofInt 64 a &&& BitVec.ofInt 64 m = p at *
  have e2 : BitVec.ofInt 64 a - p = (BitVec.ofInt 64 a &&& ~~~BitVec.ofInt 64 m) + p - p := by rw [h]
  rw [e2]
  exact BitVec.add_sub_cancel ..
theorem lt_iff_mask {a : Int} (ha : In64 a) : bits .andNot .i64 a 255 = 0 ↔ 0 ≤ a ∧ a ≤ 255 := by
  rw [andNot_eq]
  have h255 : BitVec.ofInt 64 255 = 255#64 := rfl
  rw [h255]
  have key : (BitVec.ofInt 64 a &&& ~~~255#64) = 0#64 ↔ (BitVec.ofInt 64 a).toNat < 256 := by
    generalize BitVec.ofInt 64 a = b
    constructor
    · intro h
      have h2 := bv_split b 255#64
      rw [h, BitVec.zero_add] at h2
      rw [← h2, BitVec.toNat_and]
      exact Nat.lt_of_le_of_lt Nat.and_le_right (by decide)
    · intro h
      ext i hi
      by_cases h8 : i < 8
      · have : (255#64)[i] = true := by
          have : i = 0 ∨ i = 1 ∨ i = 2 ∨ i = 3 ∨ i = 4 ∨ i = 5 ∨ i = 6 ∨ i = 7 := by omega
          rcases this with rfl | rfl | rfl | rfl | rfl | rfl | rfl | rfl <;> (rw [BitVec.getElem_eq_testBit_toNat]; rfl)
        simp only [BitVec.getElem_and, BitVec.getElem_not, this, BitVec.getElem_zero, Bool.not_true, Bool.and_false]
      · have hb : b[i] = false := by
          rw [BitVec.getElem_eq_testBit_toNat]
          exact Nat.testBit_lt_two_pow (Nat.lt_of_lt_of_le h (Nat.pow_le_pow_right (n := 2) (by decide) (show 8 ≤ i by omega)))
        simp [hb]
  have hz : (BitVec.ofInt 64 a &&& ~~~255#64).toInt = 0 ↔ (BitVec.ofInt 64 a &&& ~~~255#64) = 0#64 := by
    constructor
    · intro h
      rw [← of_toInt (BitVec.ofInt 64 a &&& ~~~255#64), h]
      rfl
    · intro h; rw [h]; rfl
  rw [hz, key]
  have ht := toInt_of ha
  rw [BitVec.toInt_eq_toNat_cond] at ht
  have := (BitVec.ofInt 64 a).isLt
  obtain ⟨h1, h2⟩ := ha
  split at ht <;> omega
theorem mask_ne {a : Int} (ha : In64 a) : (bits .andNot .i64 a 255 != 0) = !decide (0 ≤ a ∧ a ≤ 255) := by
  by_cases h : 0 ≤ a ∧ a ≤ 255
  · rw [(lt_iff_mask ha).2 h]; simp [h]
  · have : bits .andNot .i64 a 255 ≠ 0 := fun e => h ((lt_iff_mask ha).1 e)
    simp [this, h]
theorem xor_16 {a : Int} (_ha : In64 a) : bits .xor .i64 a 16 = if bits .and .i64 a 16 = 0 then wrap64 (a + 16) else wrap64 (a - 16) := by
  have h16 : BitVec.ofInt 64 16 = 16#64 := rfl
  rw [xor_eq, and_eq, wrap64_toInt, wrap64_toInt, BitVec.ofInt_add, ofInt_sub64, h16]
  generalize BitVec.ofInt 64 a = b
  have hbit : ∀ i (hi : i < 64), (16#64)[i] = decide (i = 4) := by
    intro i hi
    rw [BitVec.getElem_eq_testBit_toNat]
    show Nat.testBit 16 i = _
    rw [show (16 : Nat) = 2 ^ 4 from rfl, Nat.testBit_two_pow]
    simp [eq_comm]
  cases h4 : b[4]
  · have hz : b &&& 16#64 = 0#64 := by
      ext i hi
      simp only [BitVec.getElem_and, hbit i hi, BitVec.getElem_zero]
      by_cases e : i = 4
      · subst e; simp [h4]
      · simp [e]
    rw [hz, if_pos (by rfl), BitVec.add_eq_or_of_and_eq_zero _ _ hz]
    congr 1
    ext i hi
    simp only [BitVec.getElem_xor, BitVec.getElem_or, hbit i hi]
    by_cases e : i = 4
    · subst e; simp [h4]
    · simp [e]
  · have hne : ¬ (b &&& 16#64).toInt = 0 := by
      intro h
      have h2 : b &&& 16#64 = 0#64 := by rw [← of_toInt (b &&& 16#64), h]; rfl
      have h3 : (b &&& 16#64)[4] = (0#64)[4] := by rw [h2]
      simp [h4] at h3
    rw [if_neg hne]
    congr 1
    have hx : (b ^^^ 16#64) &&& 16#64 = 0#64 := by
      ext i hi
      simp only [BitVec.getElem_xor, BitVec.getElem_and, hbit i hi, BitVec.getElem_zero]
      by_cases e : i = 4
      · subst e; simp [h4]
      · simp [e]
    have hs := BitVec.add_eq_or_of_and_eq_zero _ _ hx
    have ho : (b ^^^ 16#64) ||| 16#64 = b := by
      ext i hi
      simp only [BitVec.getElem_xor, BitVec.getElem_or, hbit i hi]
      by_cases e : i = 4
      · subst e; simp [h4]
      · simp [e]
    rw [ho] at hs
    have e2 : b - 16#64 = (b ^^^ 16#64) + 16#64 - 16#64 := by rw [hs]
    rw [e2, BitVec.add_sub_cancel]
end Go.Proofs.Ytepbknpdhiaepaa
