/-
  The stops on one side of a column, in the order in which they are met. No program in sight.
-/
import Derived.Test.YtkkhcpddpnhemaaDefs
namespace Go.Proofs.Ytkkhcpddpnhemaa
/-- The stops among the first j columns that are met: column f 0, f 1 and so on. -/
def vis (f : Nat → Nat) (l : List Bool) (j : Nat) : List Nat := ((List.range j).map f).filter fun i => l[i]?.getD false
theorem vis_succ (f : Nat → Nat) (l : List Bool) (j : Nat) : vis f l (j + 1) = vis f l j ++ (if l[f j]?.getD false = true then [f j] else []) := by
  simp only [vis, List.range_succ, List.map_append, List.filter_append, List.map_cons, List.map_nil]
  congr 1
  by_cases h : l[f j]?.getD false = true
  · rw [if_pos h, List.filter_cons, if_pos h, List.filter_nil]
  · rw [if_neg h, List.filter_cons, if_neg h, List.filter_nil]
theorem vis_zero (f : Nat → Nat) (l : List Bool) : vis f l 0 = [] := rfl
theorem vis_yes {f : Nat → Nat} {l : List Bool} {j : Nat} (h : l[f j]?.getD false = true) : vis f l (j + 1) = vis f l j ++ [f j] := by rw [vis_succ, if_pos h]
theorem vis_no {f : Nat → Nat} {l : List Bool} {j : Nat} (h : l[f j]?.getD false = false) : vis f l (j + 1) = vis f l j := by rw [vis_succ, if_neg (by simp [h]), List.append_nil]
theorem vis_prefix (f : Nat → Nat) (l : List Bool) {j m : Nat} (h : j ≤ m) : ∃ t, vis f l m = vis f l j ++ t := by
  obtain ⟨d, rfl⟩ := Nat.exists_eq_add_of_le h
  induction d with
  | zero => exact ⟨[], by simp⟩
  | succ d ih =>
    obtain ⟨t, ht⟩ := ih (by omega)
    rw [← Nat.add_assoc, vis_succ, ht, List.append_assoc]
    exact ⟨_, rfl⟩
theorem vis_hit {f : Nat → Nat} {l : List Bool} {j m : Nat} (hj : j < m) (h : l[f j]?.getD false = true) : (vis f l m)[(vis f l j).length]? = some (f j) := by
  obtain ⟨t, ht⟩ := vis_prefix f l (show j + 1 ≤ m from hj)
  rw [ht, vis_yes h, List.append_assoc, List.getElem?_append_right (Nat.le_refl _), Nat.sub_self]
  rfl
theorem vis_len (f : Nat → Nat) (l : List Bool) (j : Nat) : (vis f l j).length ≤ j := by
  unfold vis
  have := List.length_filter_le (fun i => l[i]?.getD false) ((List.range j).map f)
  simpa using this
/-- Where one comes by n stops out of S; e where there are too few. -/
def gN (S : List Nat) (n col e : Nat) : Nat := if n = 0 then col else (S[n - 1]?).getD e
theorem gN_zero (S : List Nat) (col e : Nat) : gN S 0 col e = col := if_pos rfl
theorem gN_hit {S : List Nat} {c n col e k : Nat} (h : S[c]? = some k) (hn : n = c + 1) : gN S n col e = k := by
  subst hn
  rw [gN, if_neg (by omega), Nat.add_sub_cancel, h]
  rfl
theorem gN_end {S : List Nat} {n col e : Nat} (h : S.length < n) : gN S n col e = e := by
  rw [gN, if_neg (by omega), List.getElem?_eq_none (by omega)]
  rfl
def fwd (col : Nat) (j : Nat) : Nat := col + 1 + j
def bwd (col : Nat) (j : Nat) : Nat := col - 1 - j
/-- Next and Back, as numbers. -/
def nxt (l : List Bool) (n col : Nat) : Nat := gN (vis (fwd col) l (l.length - (col + 1))) n col (l.length - 1)
def bck (l : List Bool) (n col : Nat) : Nat := gN (vis (bwd col) l col) n col 0
/-- What is wrong with Next's and Back's arguments. -/
def mErr (len : Nat) (col k : Int) : Int := if 2 ≤ len ∧ len ≤ 80 then (if 0 ≤ col ∧ col < len ∧ 0 ≤ k then 0 else 2) else 240
theorem mErr_t {n : Nat} {col k : Int} (h : ¬ (2 ≤ n ∧ n ≤ 80)) : mErr n col k = 240 := if_neg h
theorem mErr_c {n : Nat} {col k : Int} (h : 2 ≤ n ∧ n ≤ 80) (h2 : ¬ (0 ≤ col ∧ col < n ∧ 0 ≤ k)) : mErr n col k = 2 := by rw [mErr, if_pos h, if_neg h2]
theorem mErr_ok {n : Nat} {col k : Int} (h : 2 ≤ n ∧ n ≤ 80) (h2 : 0 ≤ col ∧ col < n ∧ 0 ≤ k) : mErr n col k = 0 := by rw [mErr, if_pos h, if_pos h2]
end Go.Proofs.Ytkkhcpddpnhemaa
