/-
  Plain laws: what valid pens make of valid styles. No program's step in sight.
-/
import Derived.Test.YtafokiobbceibaaRun
import Derived.Test.YtafokiobbceibaaW14
namespace Go.Proofs.Ytafokiobbceibaa
open Go.RowKit

/-- A style is valid. -/
def okS (x : Sty) : Prop := (0 ≤ x.a ∧ x.a ≤ 255) ∧ (0 ≤ x.u ∧ x.u ≤ 5) ∧ clOk x.fk x.fn = true ∧ clOk x.bk x.bn = true ∧ clOk x.lk x.ln = true
theorem errS_ok {x : Sty} (h : okS x) : errS x = 0 := by
  obtain ⟨⟨h1, h2⟩, ⟨h3, h4⟩, h5, h6, h7⟩ := h
  unfold errS stErr
  rw [auOk_t ⟨h1, h2, h3, h4⟩, if_pos rfl, h5, h6, h7]
  rfl
theorem okS_in {x : Sty} (h : okS x) : In64 x.a := by
  have := h.1
  unfold In64
  omega
theorem col_ok {c : Int} (_h : 0 ≤ c) : clOk (colK c) (colN c) = true := by
  unfold colK colN
  apply clOk_t
  by_cases h1 : c % 3 = 0
  · simp [h1]
  · by_cases h2 : c % 3 = 1
    · simp [h2]; omega
    · simp [h1, h2]; omega
theorem draft_ok {dA dU c0 c1 c2 : Int} (hA : 0 ≤ dA ∧ dA < 256) (_hU : 0 ≤ dU ∧ dU < 256) (h0 : 0 ≤ c0) (h1 : 0 ≤ c1) (h2 : 0 ≤ c2) : okS ⟨dA, dU % 6, colK c0, colN c0, colK c1, colN c1, colK c2, colN c2⟩ :=
  ⟨⟨by show 0 ≤ dA; omega, by show dA ≤ 255; omega⟩, ⟨by show 0 ≤ dU % 6; omega, by show dU % 6 ≤ 5; omega⟩, col_ok h0, col_ok h1, col_ok h2⟩
theorem oneB_or {m : Int} (h : oneB m = true) : m = 1 ∨ m = 2 ∨ m = 4 ∨ m = 8 ∨ m = 16 ∨ m = 32 ∨ m = 64 ∨ m = 128 := by
  simpa [oneB] using h
theorem clrB_or {m : Int} (h : clrB m = true) : m = 3 ∨ m = 4 ∨ m = 8 ∨ m = 16 ∨ m = 32 ∨ m = 64 ∨ m = 128 := by
  unfold clrB at h
  simp only [Bool.or_eq_true, beq_iff_eq, Bool.and_eq_true, Bool.not_eq_true', Bool.or_eq_false_iff, beq_eq_false_iff_ne] at h
  rcases h with h | ⟨h, h1, h2⟩
  · exact .inl h
  · have := oneB_or h
    omega
def setOk (m : Int) (n : Nat) : Bool := decide (0 ≤ bits .or .i64 n m) && decide (bits .or .i64 n m ≤ 255) && (bits .or .i64 (bits .or .i64 n m) m == bits .or .i64 n m)
def clrOk (m : Int) (n : Nat) : Bool := decide (0 ≤ bits .andNot .i64 n m) && decide (bits .andNot .i64 n m ≤ 255) && (bits .andNot .i64 (bits .andNot .i64 n m) m == bits .andNot .i64 n m)
theorem or_all {m : Int} (h : oneB m = true) : ∀ n, n < 256 → setOk m n = true := by
  rcases oneB_or h with rfl | rfl | rfl | rfl | rfl | rfl | rfl | rfl <;> decide +kernel
theorem andNot_all {m : Int} (h : clrB m = true) : ∀ n, n < 256 → clrOk m n = true := by
  rcases clrB_or h with rfl | rfl | rfl | rfl | rfl | rfl | rfl <;> decide +kernel
theorem or_ok {a m : Int} (ha : 0 ≤ a ∧ a ≤ 255) (h : oneB m = true) : (0 ≤ bits .or .i64 a m ∧ bits .or .i64 a m ≤ 255) ∧ bits .or .i64 (bits .or .i64 a m) m = bits .or .i64 a m := by
  obtain ⟨n, rfl⟩ : ∃ n : Nat, a = n := ⟨a.toNat, by omega⟩
  have := or_all h n (by omega)
  simpa [setOk] using this
theorem andNot_ok {a m : Int} (ha : 0 ≤ a ∧ a ≤ 255) (h : clrB m = true) : (0 ≤ bits .andNot .i64 a m ∧ bits .andNot .i64 a m ≤ 255) ∧ bits .andNot .i64 (bits .andNot .i64 a m) m = bits .andNot .i64 a m := by
  obtain ⟨n, rfl⟩ : ∃ n : Nat, a = n := ⟨a.toNat, by omega⟩
  have := andNot_all h n (by omega)
  simpa [clrOk] using this
theorem okP_or {p : Pen} (h : okP p = true) : p.n = 0 ∨ (p.n = 1 ∧ oneB p.m = true) ∨ (p.n = 2 ∧ clrB p.m = true) ∨ (p.n = 3 ∧ 0 ≤ p.m ∧ p.m ≤ 5) ∨ (p.n = 4 ∧ clOk p.ck p.cn = true) ∨ (p.n = 5 ∧ clOk p.ck p.cn = true) ∨ (p.n = 6 ∧ clOk p.ck p.cn = true) := by
  unfold okP pnB at h
  simp only [Bool.and_eq_true, decide_eq_true_eq] at h
  obtain ⟨-, -, hn, hm, hc⟩ := h
  have h7 : p.n = 0 ∨ p.n = 1 ∨ p.n = 2 ∨ p.n = 3 ∨ p.n = 4 ∨ p.n = 5 ∨ p.n = 6 := by omega
  unfold mayB at hm
  unfold colB at hc
  rcases h7 with e | e | e | e | e | e | e
  all_goals rw [e] at hm hc
  · exact .inl e
  · exact .inr (.inl ⟨e, by simpa using hm⟩)
  · exact .inr (.inr (.inl ⟨e, by simpa using hm⟩))
  · exact .inr (.inr (.inr (.inl ⟨e, by simpa [undB] using hm⟩)))
  · exact .inr (.inr (.inr (.inr (.inl ⟨e, by simpa using hc⟩))))
  · exact .inr (.inr (.inr (.inr (.inr (.inl ⟨e, by simpa using hc⟩)))))
  · exact .inr (.inr (.inr (.inr (.inr (.inr ⟨e, by simpa using hc⟩)))))
/-- A valid pen keeps a valid style valid, and twice is once. -/
theorem ap_ok {x : Sty} {p : Pen} (hx : okS x) (hp : okP p = true) : okS (apS x p) ∧ apS (apS x p) p = apS x p := by
  obtain ⟨ha, hu, hf, hb, hl⟩ := hx
  rcases okP_or hp with e | ⟨e, h⟩ | ⟨e, h⟩ | ⟨e, h⟩ | ⟨e, h⟩ | ⟨e, h⟩ | ⟨e, h⟩
  · simp only [apS, e, if_pos]
    exact ⟨⟨by decide, by decide, by decide, by decide, by decide⟩, trivial⟩
  · obtain ⟨h1, h2⟩ := or_ok ha h
    simp only [apS, e]
    exact ⟨⟨h1, hu, hf, hb, hl⟩, by simp [h2]⟩
  · obtain ⟨h1, h2⟩ := andNot_ok ha h
    simp only [apS, e]
    exact ⟨⟨h1, hu, hf, hb, hl⟩, by simp [h2]⟩
  · simp only [apS, e]
    exact ⟨⟨ha, h, hf, hb, hl⟩, by simp⟩
  · simp only [apS, e]
    exact ⟨⟨ha, hu, h, hb, hl⟩, by simp⟩
  · simp only [apS, e]
    exact ⟨⟨ha, hu, hf, h, hl⟩, by simp⟩
  · simp only [apS, e]
    exact ⟨⟨ha, hu, hf, hb, h⟩, by simp⟩
theorem okP_n {p : Pen} (h : okP p = true) : 0 ≤ p.n ∧ p.n ≤ 6 := by
  rcases okP_or h with e | ⟨e, -⟩ | ⟨e, -⟩ | ⟨e, -⟩ | ⟨e, -⟩ | ⟨e, -⟩ | ⟨e, -⟩ <;> omega
/-- Pens of different properties commute. -/
theorem ap_comm {x : Sty} {p q : Pen} (hp : okP p = true) (hq : okP q = true) (h1 : p.n ≠ q.n) (h2 : ¬ (p.n ≤ 2 ∧ q.n ≤ 2)) (h3 : p.n ≠ 0) (h4 : q.n ≠ 0) : apS (apS x p) q = apS (apS x q) p := by
  have hp' := okP_n hp
  have hq' := okP_n hq
  have e1 : p.n = 1 ∨ p.n = 2 ∨ p.n = 3 ∨ p.n = 4 ∨ p.n = 5 ∨ p.n = 6 := by omega
  have e2 : q.n = 1 ∨ q.n = 2 ∨ q.n = 3 ∨ q.n = 4 ∨ q.n = 5 ∨ q.n = 6 := by omega
  rcases e1 with e1 | e1 | e1 | e1 | e1 | e1 <;> rcases e2 with e2 | e2 | e2 | e2 | e2 | e2 <;> first | (exfalso; omega) | simp [apS, e1, e2]
theorem runV_ok {x : Sty} {l : List Pen} {y : Sty} (hx : okS x) (h : runS x l = some y) : runV x l = .tuple #[styV y, .int .i64 0] := by
  unfold runV
  rw [errS_ok hx, h]
  rfl
theorem run1 {x : Sty} {p : Pen} (hp : okP p = true) : runS x [p] = some (apS x p) := by simp [runS, hp]
theorem run2 {x : Sty} {p q : Pen} (hp : okP p = true) (hq : okP q = true) : runS x [p, q] = some (apS (apS x p) q) := by simp [runS, hp, hq]
theorem run_reset {x _y : Sty} {l : List Pen} : runS x (⟨39, 0, 0, 0, 0, ⟨#[]⟩⟩ :: l) = runS zeroS l := by
  rw [runS, if_pos (by decide +kernel)]
  rfl
theorem okS_zero : okS zeroS := ⟨by decide, by decide, by decide, by decide, by decide⟩
theorem run_all {l : List Pen} (h : ∀ p ∈ l, okP p = true) : ∀ {x : Sty}, ∃ y, runS x l = some y := by
  induction l with
  | nil => exact fun {x} => ⟨x, rfl⟩
  | cons p l ih =>
    intro x
    rw [runS, if_pos (h p (List.mem_cons_self ..))]
    exact ih (fun q hq => h q (List.mem_cons_of_mem _ hq))
end Go.Proofs.Ytafokiobbceibaa
