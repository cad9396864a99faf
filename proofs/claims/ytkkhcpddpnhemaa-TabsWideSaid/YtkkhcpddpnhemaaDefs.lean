/-
  Plain definitions for the seat of layer 14 (tabs): no program in sight.
-/
import Derived.Test.YtkkhcpddpnhemaaExt
namespace Go.Proofs.Ytkkhcpddpnhemaa
/-- What is wrong with tabs of n columns. -/
def tErr (n : Nat) : Int := if 2 ≤ n ∧ n ≤ 80 then 0 else 240
def tOk (n : Nat) : Bool := decide (2 ≤ n ∧ n ≤ 80)
theorem tErr_ok {n : Nat} (h : 2 ≤ n ∧ n ≤ 80) : tErr n = 0 := if_pos h
theorem tErr_no {n : Nat} (h : ¬ (2 ≤ n ∧ n ≤ 80)) : tErr n = 240 := if_neg h
theorem tOk_ok {n : Nat} (h : 2 ≤ n ∧ n ≤ 80) : tOk n = true := decide_eq_true h
theorem tOk_no {n : Nat} (h : ¬ (2 ≤ n ∧ n ≤ 80)) : tOk n = false := decide_eq_false h
/-- What is wrong with tabs and a column. -/
def wErr (n : Nat) (col : Int) : Int := if 2 ≤ n ∧ n ≤ 80 then (if 0 ≤ col ∧ col < n then 0 else 2) else 240
theorem wErr_t {n : Nat} {col : Int} (h : ¬ (2 ≤ n ∧ n ≤ 80)) : wErr n col = 240 := if_neg h
theorem wErr_c {n : Nat} {col : Int} (h : 2 ≤ n ∧ n ≤ 80) (h2 : ¬ (0 ≤ col ∧ col < n)) : wErr n col = 2 := by rw [wErr, if_pos h, if_neg h2]
theorem wErr_ok {n : Nat} {col : Int} (h : 2 ≤ n ∧ n ≤ 80) (h2 : 0 ≤ col ∧ col < n) : wErr n col = 0 := by rw [wErr, if_pos h, if_pos h2]
/-- The slice at a holds the bools l. -/
def Bs (w : World) (a : Option Addr) (l : List Bool) : Prop :=
  l = [] ∨ ∃ b off, a = some ⟨b, off, none⟩ ∧ b < w.heap.size ∧ ∀ j, j < l.length → w.cell? ⟨b, off + j, none⟩ = some (.bool (l[j]?.getD false))
def Is (w : World) (a : Option Addr) (l : List Int) : Prop :=
  l = [] ∨ ∃ b off, a = some ⟨b, off, none⟩ ∧ b < w.heap.size ∧ ∀ j, j < l.length → w.cell? ⟨b, off + j, none⟩ = some (.int .i64 (l[j]?.getD 0))
theorem Bs.nil (w : World) (a : Option Addr) : Bs w a [] := .inl rfl
theorem Is.nil (w : World) (a : Option Addr) : Is w a [] := .inl rfl
theorem Bs.ext {w : World} {a : Option Addr} {l : List Bool} (h : Bs w a l) (H : Array Obj) (d : Nat) : Bs (ext w H d) a l := by
  rcases h with h | ⟨b, off, e, hb, hc⟩
  · exact .inl h
  · exact .inr ⟨b, off, e, by simp; omega, fun j hj => (ext_cell w H d b (off + j) hb).trans (hc j hj)⟩
theorem Bs.grows {w w' : World} {a : Option Addr} {l : List Bool} (h : Bs w a l) (g : Grows w w') : Bs w' a l := by
  obtain ⟨H, d, rfl⟩ := g
  exact h.ext H d
theorem Is.ext {w : World} {a : Option Addr} {l : List Int} (h : Is w a l) (H : Array Obj) (d : Nat) : Is (ext w H d) a l := by
  rcases h with h | ⟨b, off, e, hb, hc⟩
  · exact .inl h
  · exact .inr ⟨b, off, e, by simp; omega, fun j hj => (ext_cell w H d b (off + j) hb).trans (hc j hj)⟩
theorem Is.grows {w w' : World} {a : Option Addr} {l : List Int} (h : Is w a l) (g : Grows w w') : Is w' a l := by
  obtain ⟨H, d, rfl⟩ := g
  exact h.ext H d
theorem Bs.at {w : World} {a : Option Addr} {l : List Bool} (h : Bs w a l) {k : Nat} (hk : k < l.length) : ∃ b off, a = some ⟨b, off, none⟩ ∧ b < w.heap.size ∧ ∀ j, j < l.length → w.cell? ⟨b, off + j, none⟩ = some (.bool (l[j]?.getD false)) := by
  rcases h with rfl | h
  · simp at hk
  · exact h
theorem Is.at {w : World} {a : Option Addr} {l : List Int} (h : Is w a l) {k : Nat} (hk : k < l.length) : ∃ b off, a = some ⟨b, off, none⟩ ∧ b < w.heap.size ∧ ∀ j, j < l.length → w.cell? ⟨b, off + j, none⟩ = some (.int .i64 (l[j]?.getD 0)) := by
  rcases h with rfl | h
  · simp at hk
  · exact h
end Go.Proofs.Ytkkhcpddpnhemaa
