/-
  Saved cursors held equal.
-/
import Derived.Test.YtepbknpdhiaepaaRows
import Derived.Test.YtepbknpdhiaepaaArr
import Derived.WalkKit
import Derived.WalkSpells
import Derived.WalkLawsBesides
import Derived.Handy
import Derived.IntWalk
import Derived.Lib.Hide
import Derived.Outline
import Derived.Deep.Light
import Derived.Deep.LoopGhost
import Derived.BigGuardPart
import Derived.BigQuiet
import Derived.Deep.QuietTactic
import Derived.Deep.RegionHeld3
import Derived.Deep.DeepCutAuto
import Derived.Test.YtepbknpdhiaepaaReg
namespace Go.Proofs.Ytepbknpdhiaepaa
open Go.RowKit


theorem efs_cons {P : Program} {d : Nat} {xs ys : Array Value} {f : Field} {fs : List Field} {a b : Value} {q q' : Bool} {w : World} (hn : f.name ≠ "_") (ha : (part f.type xs f.offset).run P w = .ok a w) (hb : (part f.type ys f.offset).run P w = .ok b w) (hr : (Op.equalIn d f.type a b).run P w = .ok q w) (h : (Op.eqFields d xs ys fs).run P w = .ok q' w) : (Op.eqFields d xs ys (f :: fs)).run P w = .ok (q && q') w := by
  simp only [Op.eqFields, if_pos hn, Sem.run_bind, ha, hb, hr, Result.andThen_ok]
  cases q
  · simp
  · simpa using h
theorem efs_last {P : Program} {d : Nat} {xs ys : Array Value} {f : Field} {a b : Value} {q : Bool} {w : World} (hn : f.name ≠ "_") (ha : (part f.type xs f.offset).run P w = .ok a w) (hb : (part f.type ys f.offset).run P w = .ok b w) (hr : (Op.equalIn d f.type a b).run P w = .ok q w) : (Op.eqFields d xs ys [f]).run P w = .ok q w := by
  have h := efs_cons (fs := []) (q' := true) hn ha hb hr rfl
  rwa [Bool.and_true] at h
theorem bool_eq (d : Nat) (w : World) (a b : Bool) : (Op.equalIn (d + 1) 4 (.bool a) (.bool b)).run Try.prog w = .ok (a == b) w := run_equalIn_bool w d 4 a b Try.underlying4
theorem und_27 : Try.prog.underlying 27 = some (.struct (Try.prog.fieldsOf 27)) := by kernel_rfl
theorem stood_27 : Try.prog.stoodInHeld 27 = false := by kernel_rfl
set_option maxRecDepth 100000 in
theorem cur_eq (d : Nat) (w : World) (x y x' y' : Int) (wr wr' : Bool) : (Op.equalIn (d + 2) 27 (.agg #[.int .i64 x, .int .i64 y, .bool wr]) (.agg #[.int .i64 x', .int .i64 y', .bool wr'])).run Try.prog w = .ok ((x == x') && ((y == y') && ((wr == wr')))) w := by
  refine (run_equalIn_struct w (d + 1) 27 _ _ und_27 stood_27).trans ?_
  simp only [Program.fieldsOf, Try.underlying27]
  refine efs_cons (by decide) (by kernel_rfl) (by kernel_rfl) (int_eq _ _ _ _) ?_
  refine efs_cons (by decide) (by kernel_rfl) (by kernel_rfl) (int_eq _ _ _ _) ?_
  exact efs_last (by decide) (by kernel_rfl) (by kernel_rfl) (bool_eq _ _ _ _)
theorem und_73 : Try.prog.underlying 73 = some (.struct (Try.prog.fieldsOf 73)) := by kernel_rfl
theorem stood_73 : Try.prog.stoodInHeld 73 = false := by kernel_rfl
set_option maxRecDepth 100000 in
theorem col_eq (d : Nat) (w : World) (k n k' n' : Int) : (Op.equalIn (d + 2) 73 (.agg #[.int .i64 k, .int .i64 n]) (.agg #[.int .i64 k', .int .i64 n'])).run Try.prog w = .ok ((k == k') && ((n == n'))) w := by
  refine (run_equalIn_struct w (d + 1) 73 _ _ und_73 stood_73).trans ?_
  simp only [Program.fieldsOf, Try.underlying73]
  refine efs_cons (by decide) (by kernel_rfl) (by kernel_rfl) (int_eq _ _ _ _) ?_
  exact efs_last (by decide) (by kernel_rfl) (by kernel_rfl) (int_eq _ _ _ _)
theorem und_75 : Try.prog.underlying 75 = some (.struct (Try.prog.fieldsOf 75)) := by kernel_rfl
theorem stood_75 : Try.prog.stoodInHeld 75 = false := by kernel_rfl
set_option maxRecDepth 100000 in
theorem sty_eq (d : Nat) (w : World) (a u fk fn bk bn lk ln a' u' fk' fn' bk' bn' lk' ln' : Int) : (Op.equalIn (d + 3) 75 (.agg #[.int .i64 a, .int .i64 u, .int .i64 fk, .int .i64 fn, .int .i64 bk, .int .i64 bn, .int .i64 lk, .int .i64 ln]) (.agg #[.int .i64 a', .int .i64 u', .int .i64 fk', .int .i64 fn', .int .i64 bk', .int .i64 bn', .int .i64 lk', .int .i64 ln'])).run Try.prog w = .ok ((a == a') && ((u == u') && ((fk == fk' && fn == fn') && ((bk == bk' && bn == bn') && ((lk == lk' && ln == ln')))))) w := by
  refine (run_equalIn_struct w (d + 2) 75 _ _ und_75 stood_75).trans ?_
  simp only [Program.fieldsOf, Try.underlying75]
  refine efs_cons (by decide) (by kernel_rfl) (by kernel_rfl) (int_eq _ _ _ _) ?_
  refine efs_cons (by decide) (by kernel_rfl) (by kernel_rfl) (int_eq _ _ _ _) ?_
  refine efs_cons (by decide) (by kernel_rfl) (by kernel_rfl) (col_eq _ _ _ _ _ _) ?_
  refine efs_cons (by decide) (by kernel_rfl) (by kernel_rfl) (col_eq _ _ _ _ _ _) ?_
  exact efs_last (by decide) (by kernel_rfl) (by kernel_rfl) (col_eq _ _ _ _ _ _)
theorem und_78 : Try.prog.underlying 78 = some (.struct (Try.prog.fieldsOf 78)) := by kernel_rfl
theorem stood_78 : Try.prog.stoodInHeld 78 = false := by kernel_rfl
set_option maxRecDepth 100000 in
theorem set_eq (d : Nat) (w : World) (g0 g1 g2 g3 us on g0' g1' g2' g3' us' on' : Int) : (Op.equalIn (d + 3) 78 (.agg #[.int .i64 g0, .int .i64 g1, .int .i64 g2, .int .i64 g3, .int .i64 us, .int .i64 on]) (.agg #[.int .i64 g0', .int .i64 g1', .int .i64 g2', .int .i64 g3', .int .i64 us', .int .i64 on'])).run Try.prog w = .ok ((g0 == g0' && (g1 == g1' && (g2 == g2' && (g3 == g3')))) && ((us == us') && ((on == on')))) w := by
  refine (run_equalIn_struct w (d + 2) 78 _ _ und_78 stood_78).trans ?_
  simp only [Program.fieldsOf, Try.underlying78]
  refine efs_cons (by decide) (by kernel_rfl) (by kernel_rfl) (arr_eq _ _ _ _ _ _ _ _ _ _) ?_
  refine efs_cons (by decide) (by kernel_rfl) (by kernel_rfl) (int_eq _ _ _ _) ?_
  exact efs_last (by decide) (by kernel_rfl) (by kernel_rfl) (int_eq _ _ _ _)
theorem und_80 : Try.prog.underlying 80 = some (.struct (Try.prog.fieldsOf 80)) := by kernel_rfl
theorem stood_80 : Try.prog.stoodInHeld 80 = false := by kernel_rfl
set_option maxRecDepth 100000 in
theorem sav_eq0 (d : Nat) (w : World) (x y a u fk fn bk bn lk ln g0 g1 g2 g3 us on x' y' a' u' fk' fn' bk' bn' lk' ln' g0' g1' g2' g3' us' on' : Int) (is wr og is' wr' og' : Bool) : (Op.equalIn (d + 4) 80 (.agg #[.bool is, .int .i64 x, .int .i64 y, .bool wr, .int .i64 a, .int .i64 u, .int .i64 fk, .int .i64 fn, .int .i64 bk, .int .i64 bn, .int .i64 lk, .int .i64 ln, .int .i64 g0, .int .i64 g1, .int .i64 g2, .int .i64 g3, .int .i64 us, .int .i64 on, .bool og]) (.agg #[.bool is', .int .i64 x', .int .i64 y', .bool wr', .int .i64 a', .int .i64 u', .int .i64 fk', .int .i64 fn', .int .i64 bk', .int .i64 bn', .int .i64 lk', .int .i64 ln', .int .i64 g0', .int .i64 g1', .int .i64 g2', .int .i64 g3', .int .i64 us', .int .i64 on', .bool og'])).run Try.prog w = .ok ((is == is') && (((x == x') && ((y == y') && ((wr == wr')))) && (((a == a') && ((u == u') && ((fk == fk' && fn == fn') && ((bk == bk' && bn == bn') && ((lk == lk' && ln == ln')))))) && (((g0 == g0' && (g1 == g1' && (g2 == g2' && (g3 == g3')))) && ((us == us') && ((on == on')))) && ((og == og')))))) w := by
  refine (run_equalIn_struct w (d + 3) 80 _ _ und_80 stood_80).trans ?_
  simp only [Program.fieldsOf, Try.underlying80]
  refine efs_cons (by decide) (by kernel_rfl) (by kernel_rfl) (bool_eq _ _ _ _) ?_
  refine efs_cons (by decide) (by kernel_rfl) (by kernel_rfl) (cur_eq _ _ _ _ _ _ _ _) ?_
  refine efs_cons (by decide) (by kernel_rfl) (by kernel_rfl) (sty_eq _ _ _ _ _ _ _ _ _ _ _ _ _ _ _ _ _ _) ?_
  refine efs_cons (by decide) (by kernel_rfl) (by kernel_rfl) (set_eq _ _ _ _ _ _ _ _ _ _ _ _ _ _) ?_
  exact efs_last (by decide) (by kernel_rfl) (by kernel_rfl) (bool_eq _ _ _ _)
/-- Two saved cursors are the same. -/
def savQ (x y a u fk fn bk bn lk ln g0 g1 g2 g3 us on x' y' a' u' fk' fn' bk' bn' lk' ln' g0' g1' g2' g3' us' on' : Int) (is wr og is' wr' og' : Bool) : Bool := (is == is') && (((x == x') && ((y == y') && ((wr == wr')))) && (((a == a') && ((u == u') && ((fk == fk' && fn == fn') && ((bk == bk' && bn == bn') && ((lk == lk' && ln == ln')))))) && (((g0 == g0' && (g1 == g1' && (g2 == g2' && (g3 == g3')))) && ((us == us') && ((on == on')))) && ((og == og')))))
theorem sav_eq : ∀ (w : World) (x y a u fk fn bk bn lk ln g0 g1 g2 g3 us on x' y' a' u' fk' fn' bk' bn' lk' ln' g0' g1' g2' g3' us' on' : Int) (is wr og is' wr' og' : Bool), (Op.equalIn 10000 80 (.agg #[.bool is, .int .i64 x, .int .i64 y, .bool wr, .int .i64 a, .int .i64 u, .int .i64 fk, .int .i64 fn, .int .i64 bk, .int .i64 bn, .int .i64 lk, .int .i64 ln, .int .i64 g0, .int .i64 g1, .int .i64 g2, .int .i64 g3, .int .i64 us, .int .i64 on, .bool og]) (.agg #[.bool is', .int .i64 x', .int .i64 y', .bool wr', .int .i64 a', .int .i64 u', .int .i64 fk', .int .i64 fn', .int .i64 bk', .int .i64 bn', .int .i64 lk', .int .i64 ln', .int .i64 g0', .int .i64 g1', .int .i64 g2', .int .i64 g3', .int .i64 us', .int .i64 on', .bool og'])).run Try.prog w = .ok (savQ x y a u fk fn bk bn lk ln g0 g1 g2 g3 us on x' y' a' u' fk' fn' bk' bn' lk' ln' g0' g1' g2' g3' us' on' is wr og is' wr' og') w := fun w x y a u fk fn bk bn lk ln g0 g1 g2 g3 us on x' y' a' u' fk' fn' bk' bn' lk' ln' g0' g1' g2' g3' us' on' is wr og is' wr' og' => sav_eq0 9996 w x y a u fk fn bk bn lk ln g0 g1 g2 g3 us on x' y' a' u' fk' fn' bk' bn' lk' ln' g0' g1' g2' g3' us' on' is wr og is' wr' og'
theorem savQ_self (x y a u fk fn bk bn lk ln g0 g1 g2 g3 us on : Int) (is wr og : Bool) : savQ x y a u fk fn bk bn lk ln g0 g1 g2 g3 us on x y a u fk fn bk bn lk ln g0 g1 g2 g3 us on is wr og is wr og = true := by
  unfold savQ
  simp
end Go.Proofs.Ytepbknpdhiaepaa
