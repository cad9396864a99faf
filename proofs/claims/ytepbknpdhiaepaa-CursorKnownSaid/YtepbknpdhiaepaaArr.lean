/-
  Two arrays of four numbers, held equal.
-/
import Derived.Test.YtepbknpdhiaepaaRows
import Derived.WalkKit
namespace Go.Proofs.Ytepbknpdhiaepaa
theorem int_eq (d : Nat) (w : World) (a b : Int) : (Op.equalIn (d + 1) 3 (.int .i64 a) (.int .i64 b)).run Try.prog w = .ok (a == b) w := run_equalIn_int w d 3 .i64 .i64 a b Try.underlying3
theorem size3 (w : World) : (sizeOf 3).run Try.prog w = .ok 1 w := by kernel_rfl
theorem part76 (w : World) (x0 x1 x2 x3 : Value) (k : Nat) (hk : k < 4) : (part 3 #[x0, x1, x2, x3] k).run Try.prog w = .ok (#[x0, x1, x2, x3].getD k undef) w := by
  have hk : k = 0 ∨ k = 1 ∨ k = 2 ∨ k = 3 := by omega
  rcases hk with rfl | rfl | rfl | rfl
  all_goals (show _ = _; kernel_rfl)
theorem arr_eq (d : Nat) (w : World) (a b c e a' b' c' e' : Int) :
    (Op.equalIn (d + 2) 76 (.agg #[.int .i64 a, .int .i64 b, .int .i64 c, .int .i64 e]) (.agg #[.int .i64 a', .int .i64 b', .int .i64 c', .int .i64 e'])).run Try.prog w = .ok (a == a' && (b == b' && (c == c' && e == e'))) w := by
  unfold Op.equalIn
  simp [Sem.run_bind, Try.underlying76, run_underlying, Std.Legacy.Range.forIn_eq_forIn_range']
  have e0 := part76 w (.int .i64 a) (.int .i64 b) (.int .i64 c) (.int .i64 e)
  have e1 := part76 w (.int .i64 a') (.int .i64 b') (.int .i64 c') (.int .i64 e')
  have hr : List.range' 0 4 = [0, 1, 2, 3] := rfl
  rw [hr]
  simp [List.forIn_cons, Sem.run_bind, e0, e1, int_eq]
  cases h0 : a == a' <;> cases h1 : b == b' <;> cases h2 : c == c' <;> cases h3 : e == e' <;> simp_all
/-- As the walk meets it. -/
theorem arr_eq_at2 : ∀ (w : World) (a b c e a' b' c' e' : Int), (Op.equalIn 9998 76 (.agg #[.int .i64 a, .int .i64 b, .int .i64 c, .int .i64 e]) (.agg #[.int .i64 a', .int .i64 b', .int .i64 c', .int .i64 e'])).run Try.prog w = .ok (a == a' && (b == b' && (c == c' && e == e'))) w := arr_eq 9996
theorem arr_eq_at : ∀ (w : World) (a b c e a' b' c' e' : Int), (Op.equalIn 9999 76 (.agg #[.int .i64 a, .int .i64 b, .int .i64 c, .int .i64 e]) (.agg #[.int .i64 a', .int .i64 b', .int .i64 c', .int .i64 e'])).run Try.prog w = .ok (a == a' && (b == b' && (c == c' && e == e'))) w := arr_eq 9997
end Go.Proofs.Ytepbknpdhiaepaa
