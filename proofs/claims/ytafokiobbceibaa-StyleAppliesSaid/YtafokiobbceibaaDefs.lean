/-
  Plain definitions for the seat of layer 4 (style), no program in sight.
-/
import Derived.Test.YtafokiobbceibaaExt
namespace Go.Proofs.Ytafokiobbceibaa
/-- A color is valid. -/
def clOk (k n : Int) : Bool := decide ((k = 0 ∧ n = 0) ∨ (k = 1 ∧ 0 ≤ n ∧ n ≤ 255) ∨ (k = 2 ∧ 0 ≤ n ∧ n ≤ 16777215))
def clErr (x : Bool) : Int := if x then 0 else 130
@[simp] theorem clErr_t : clErr true = 0 := rfl
@[simp] theorem clErr_f : clErr false = 130 := rfl
theorem clOk_t {k n : Int} (h : (k = 0 ∧ n = 0) ∨ (k = 1 ∧ 0 ≤ n ∧ n ≤ 255) ∨ (k = 2 ∧ 0 ≤ n ∧ n ≤ 16777215)) : clOk k n = true := decide_eq_true h
theorem clOk_f {k n : Int} (h : ¬ ((k = 0 ∧ n = 0) ∨ (k = 1 ∧ 0 ≤ n ∧ n ≤ 255) ∨ (k = 2 ∧ 0 ≤ n ∧ n ≤ 16777215))) : clOk k n = false := decide_eq_false h
end Go.Proofs.Ytafokiobbceibaa
