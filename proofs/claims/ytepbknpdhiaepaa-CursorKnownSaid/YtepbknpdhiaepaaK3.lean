/-
  Walks: the sets.
-/
import Derived.Test.YtepbknpdhiaepaaRows
import Derived.Test.YtepbknpdhiaepaaLt
import Derived.Test.YtepbknpdhiaepaaDefs
import Derived.WalkKit
import Derived.WalkSpells
import Derived.WalkLawsBesides
import Derived.Handy
import Derived.Laws.EntriesVeiled
import Derived.Lib.Hide
import Derived.Deep.Light
import Derived.Deep.LoopGhost
import Derived.BigGuardPart
import Derived.BigQuiet
import Derived.Deep.QuietTactic
import Derived.Deep.RegionHeld3
import Derived.Test.YtepbknpdhiaepaaReg
namespace Go.Proofs.Ytepbknpdhiaepaa
open Go.RowKit


def ok01 (x : Int) : Bool := x == 0 || x == 1
def rightB (a b c d u o : Int) : Bool := ok01 a && ok01 b && ok01 c && ok01 d && (ok01 u && (o == 0 || o == 2 || o == 3))
def upto (k : Nat) (a b c d : Int) : Prop := (0 < k → ok01 a = true) ∧ (1 < k → ok01 b = true) ∧ (2 < k → ok01 c = true) ∧ (3 < k → ok01 d = true)
def errS (b : Bool) : Int := if b then 0 else 250
@[simp] theorem errS_true : errS true = 0 := rfl
@[simp] theorem errS_false : errS false = 250 := rfl

theorem ok01_iff {x : Int} : ok01 x = true ↔ x = 0 ∨ x = 1 := by simp [ok01]
theorem ok01_false {x : Int} : ok01 x = false ↔ ¬ (x = 0 ∨ x = 1) := by rw [← ok01_iff, Bool.not_eq_true]
theorem rightB_iff {a b c d u o : Int} : rightB a b c d u o = true ↔ (a = 0 ∨ a = 1) ∧ (b = 0 ∨ b = 1) ∧ (c = 0 ∨ c = 1) ∧ (d = 0 ∨ d = 1) ∧ (u = 0 ∨ u = 1) ∧ (o = 0 ∨ o = 2 ∨ o = 3) := by
  simp only [rightB, Bool.and_eq_true, ok01_iff, Bool.or_eq_true, beq_iff_eq]
  constructor
  · rintro ⟨⟨⟨⟨h1, h2⟩, h3⟩, h4⟩, h5, h6⟩; exact ⟨h1, h2, h3, h4, h5, by omega⟩
  · rintro ⟨h1, h2, h3, h4, h5, h6⟩; exact ⟨⟨⟨⟨h1, h2⟩, h3⟩, h4⟩, h5, by omega⟩

def onceOf (q : Int) : Int := if q = 2 then 2 else if q = 3 then 3 else 0
theorem rightB_of (b : Int) (_h0 : 0 ≤ b) : rightB (b % 2) (b / 2 % 2) (b / 4 % 2) (b / 8 % 2) (b / 16 % 2) (onceOf (b / 32 % 4)) = true := by
  rw [rightB_iff]
  refine ⟨by omega, by omega, by omega, by omega, by omega, ?_⟩
  unfold onceOf
  split
  · omega
  · split <;> omega
theorem andNot_zero_iff (x : BitVec 64) : (x &&& ~~~(1#64)).toNat = 0 ↔ x.toNat < 2 := by
  have h3 : (~~~(1#64)).toNat = 18446744073709551614 := by decide
  rw [BitVec.toNat_and, h3]
  constructor
  · intro h
    have h4 : (x.toNat &&& 18446744073709551614) >>> 1 = 0 := by rw [h]; rfl
    rw [Nat.shiftRight_and_distrib] at h4
    have h5 : (18446744073709551614 : Nat) >>> 1 = 2 ^ 63 - 1 := by decide
    rw [h5, Nat.and_two_pow_sub_one_eq_mod, Nat.shiftRight_eq_div_pow] at h4
    have := x.isLt
    omega
  · intro h
    have : x.toNat = 0 ∨ x.toNat = 1 := by omega
    rcases this with h | h <;> rw [h] <;> decide
theorem andNot_one {u : Int} (h : In64 u) : (bits .andNot .i64 u 1 != 0) = !(ok01 u) := by
  obtain ⟨h1, h2⟩ := h
  have hk := andNot_zero_iff (BitVec.ofInt 64 u)
  have hx : (BitVec.ofInt 64 u).toNat = (u % 18446744073709551616).toNat := by simp [BitVec.toNat_ofInt]
  have hlt := (BitVec.ofInt 64 u &&& ~~~(1#64)).isLt
  have e : bits .andNot .i64 u 1 = IntKind.i64.wrap ((BitVec.ofInt 64 u &&& ~~~(1#64)).toNat) := rfl
  rw [hx] at hk
  rw [e, Bool.eq_iff_iff, bne_iff_ne]
  simp only [Bool.not_eq_true', ← Bool.not_eq_true, ok01_iff]
  generalize (BitVec.ofInt 64 u &&& ~~~(1#64)).toNat = n at *
  have hw : IntKind.i64.wrap (n : Int) = 0 ↔ n = 0 := by
    simp only [IntKind.wrap, IntKind.bits, IntKind.signed]
    simp
    split <;> omega
  rw [ne_eq, hw, hk]
  omega
set_option maxHeartbeats 400000 in
theorem sright_any (a b c d u o : Int) (w : World) :
    Calls Try.prog 61 #[.agg #[.int .i64 a, .int .i64 b, .int .i64 c, .int .i64 d, .int .i64 u, .int .i64 o]] w (Ret (.bool (rightB a b c d u o)) w) := by
  go_enter Try.func61, Try.ntmps61
  go_wp2
  go_loop [3] (fun i => ∃ k : Nat, k ≤ 4 ∧ i = .int .i64 k ∧ upto k a b c d) (fun i => 4 - (intOf i).toNat)
  case atStart => exact ⟨0, by omega, rfl, by simp [upto]⟩
  case round =>
    obtain ⟨k, hk, rfl, hp⟩ := hrel
    have hk : k = 0 ∨ k = 1 ∨ k = 2 ∨ k = 3 ∨ k = 4 := by omega
    rcases hk with rfl | rfl | rfl | rfl | rfl
    all_goals go_wp2
    all_goals first
      | (go_ret; refine ⟨ret_bool ?_, (by repeat' (first | (with_reducible exact Grows.refl _) | (with_reducible refine Grows.alloc ?_ _) | (with_reducible refine Grows.drew ?_) | (with_reducible refine Grows.ext ?_ _ _)))⟩; go_light; simp_all [rightB, ok01, upto]; done)
      | (refine ⟨⟨1, by omega, by go_num, ?_⟩, by simp [intOf]⟩; go_light; simp_all [ok01, upto]; done)
      | (refine ⟨⟨2, by omega, by go_num, ?_⟩, by simp [intOf]⟩; go_light; simp_all [ok01, upto]; done)
      | (refine ⟨⟨3, by omega, by go_num, ?_⟩, by simp [intOf]⟩; go_light; simp_all [ok01, upto]; done)
      | (refine ⟨⟨4, by omega, by go_num, ?_⟩, by simp [intOf]⟩; go_light; simp_all [ok01, upto]; done)
      | (go_ret; refine ⟨ret_bool ?_, (by repeat' (first | (with_reducible exact Grows.refl _) | (with_reducible refine Grows.alloc ?_ _) | (with_reducible refine Grows.drew ?_) | (with_reducible refine Grows.ext ?_ _ _)))⟩; go_light; rw [Bool.eq_iff_iff]; simp_all [rightB, ok01, upto]; done)

theorem idx76_0 (x0 x1 x2 x3 : Value) (w : World) : (Instr.index 76 (.agg #[x0, x1, x2, x3]) (.int .i64 0)).run Try.prog w = .ok x0 w := by kernel_rfl
theorem idx76_1 (x0 x1 x2 x3 : Value) (w : World) : (Instr.index 76 (.agg #[x0, x1, x2, x3]) (.int .i64 1)).run Try.prog w = .ok x1 w := by kernel_rfl
theorem idx76_2 (x0 x1 x2 x3 : Value) (w : World) : (Instr.index 76 (.agg #[x0, x1, x2, x3]) (.int .i64 2)).run Try.prog w = .ok x2 w := by kernel_rfl
theorem idx76_3 (x0 x1 x2 x3 : Value) (w : World) : (Instr.index 76 (.agg #[x0, x1, x2, x3]) (.int .i64 3)).run Try.prog w = .ok x3 w := by kernel_rfl
set_option maxHeartbeats 400000 in
theorem sets_any (a b c d u o : Int) (hu : In64 u) (w : World) :
    Calls Try.prog 63 #[.agg #[.int .i64 a, .int .i64 b, .int .i64 c, .int .i64 d, .int .i64 u, .int .i64 o]] w (Ret (.int .i64 (errS (rightB a b c d u o))) w) := by
  have hbit := andNot_one hu
  clear hu
  have i0 := idx76_0 (.int .i64 a) (.int .i64 b) (.int .i64 c) (.int .i64 d)
  have i1 := idx76_1 (.int .i64 a) (.int .i64 b) (.int .i64 c) (.int .i64 d)
  have i2 := idx76_2 (.int .i64 a) (.int .i64 b) (.int .i64 c) (.int .i64 d)
  have i3 := idx76_3 (.int .i64 a) (.int .i64 b) (.int .i64 c) (.int .i64 d)
  go_enter Try.func63, Try.ntmps63
  go_wp2
  go_loop [4, 7] (fun _ i => ∃ k : Nat, k ≤ 4 ∧ i = .int .i64 k ∧ upto k a b c d) (fun _ i => 4 - (intOf i).toNat)
  case atStart => exact ⟨0, by omega, rfl, by simp [upto]⟩
  case round =>
    obtain ⟨k, hk, rfl, hp⟩ := hrel
    have hk : k = 0 ∨ k = 1 ∨ k = 2 ∨ k = 3 ∨ k = 4 := by omega
    rcases hk with rfl | rfl | rfl | rfl | rfl
    all_goals go_wp2
    all_goals first
      | (refine ⟨⟨1, by omega, by go_num, ?_⟩, by simp [intOf]⟩; go_light; simp_all [ok01, upto]; done)
      | (refine ⟨⟨_, _, _, ⟨1, by omega, rfl, ?_⟩, rfl, rfl, rfl⟩, by simp [intOf]⟩; go_light; simp_all [ok01, upto]; done)
      | (refine ⟨⟨2, by omega, by go_num, ?_⟩, by simp [intOf]⟩; go_light; simp_all [ok01, upto]; done)
      | (refine ⟨⟨_, _, _, ⟨2, by omega, rfl, ?_⟩, rfl, rfl, rfl⟩, by simp [intOf]⟩; go_light; simp_all [ok01, upto]; done)
      | (refine ⟨⟨3, by omega, by go_num, ?_⟩, by simp [intOf]⟩; go_light; simp_all [ok01, upto]; done)
      | (refine ⟨⟨_, _, _, ⟨3, by omega, rfl, ?_⟩, rfl, rfl, rfl⟩, by simp [intOf]⟩; go_light; simp_all [ok01, upto]; done)
      | (refine ⟨⟨4, by omega, by go_num, ?_⟩, by simp [intOf]⟩; go_light; simp_all [ok01, upto]; done)
      | (refine ⟨⟨_, _, _, ⟨4, by omega, rfl, ?_⟩, rfl, rfl, rfl⟩, by simp [intOf]⟩; go_light; simp_all [ok01, upto]; done)
      | (go_ret; refine ⟨ret_int ?_, (by repeat' (first | (with_reducible exact Grows.refl _) | (with_reducible refine Grows.alloc ?_ _) | (with_reducible refine Grows.drew ?_) | (with_reducible refine Grows.ext ?_ _ _)))⟩; go_light; refine (congrArg errS (?_ : rightB _ _ _ _ _ _ = false)).symm; rw [Bool.eq_false_iff, ne_eq, rightB_iff]; simp_all [upto, ok01_iff, ok01_false] <;> omega)
      | (go_ret; refine ⟨ret_int ?_, (by repeat' (first | (with_reducible exact Grows.refl _) | (with_reducible refine Grows.alloc ?_ _) | (with_reducible refine Grows.drew ?_) | (with_reducible refine Grows.ext ?_ _ _)))⟩; go_light; refine (congrArg errS (?_ : rightB _ _ _ _ _ _ = true)).symm; rw [rightB_iff]; simp_all [upto, ok01_iff] <;> omega)
theorem idx76u_0 (w : World) : (Instr.index 76 (.agg #[.int .i64 0, .int .i64 0, .int .i64 2, .int .i64 3]) (.int .u8 0)).run Try.prog w = .ok (.int .i64 0) w := by kernel_rfl
theorem idx76u_1 (w : World) : (Instr.index 76 (.agg #[.int .i64 0, .int .i64 0, .int .i64 2, .int .i64 3]) (.int .u8 1)).run Try.prog w = .ok (.int .i64 0) w := by kernel_rfl
theorem idx76u_2 (w : World) : (Instr.index 76 (.agg #[.int .i64 0, .int .i64 0, .int .i64 2, .int .i64 3]) (.int .u8 2)).run Try.prog w = .ok (.int .i64 2) w := by kernel_rfl
theorem idx76u_3 (w : World) : (Instr.index 76 (.agg #[.int .i64 0, .int .i64 0, .int .i64 2, .int .i64 3]) (.int .u8 3)).run Try.prog w = .ok (.int .i64 3) w := by kernel_rfl
set_option maxHeartbeats 400000 in
theorem of_any (b : Int) (h0 : 0 ≤ b) (h1 : b < 256) (w : World) :
    Calls Try.prog 36 #[.int .u8 b] w (Ret (.agg #[.int .i64 (b % 2), .int .i64 (b / 2 % 2), .int .i64 (b / 4 % 2), .int .i64 (b / 8 % 2), .int .i64 (b / 16 % 2), .int .i64 (onceOf (b / 32 % 4))]) w) := by
  have hq : b / 32 % 4 = 0 ∨ b / 32 % 4 = 1 ∨ b / 32 % 4 = 2 ∨ b / 32 % 4 = 3 := by omega
  have i0 := idx76u_0
  have i1 := idx76u_1
  have i2 := idx76u_2
  have i3 := idx76u_3
  rcases hq with hq | hq | hq | hq
  all_goals
    go_enter Try.func36, Try.ntmps36
    go_wp2
    go_returns
    exact ⟨by simp [onceOf, hq], (by repeat' (first | (with_reducible exact Grows.refl _) | (with_reducible refine Grows.alloc ?_ _) | (with_reducible refine Grows.drew ?_) | (with_reducible refine Grows.ext ?_ _ _)))⟩

end Go.Proofs.Ytepbknpdhiaepaa
