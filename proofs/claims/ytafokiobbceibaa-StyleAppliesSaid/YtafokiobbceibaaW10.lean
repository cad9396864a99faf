/-
  Walks: pen, fore, Seen, makes.
-/
import Derived.Test.YtafokiobbceibaaRows
import Derived.Test.YtafokiobbceibaaLt
import Derived.Test.YtafokiobbceibaaDefs
import Derived.Test.YtafokiobbceibaaBits
import Derived.Test.YtafokiobbceibaaMaps
import Derived.Test.YtafokiobbceibaaW5
import Derived.Test.YtafokiobbceibaaW7
import Derived.Test.YtafokiobbceibaaRun
import Derived.Test.YtafokiobbceibaaW8
import Derived.Test.YtafokiobbceibaaW9
import Derived.WalkKit
import Derived.WalkSpells
import Derived.WalkLawsBesides
import Derived.Handy
import Derived.Laws.EntriesVeiled
import Derived.Lib.Hide
import Derived.Deep.Light
import Derived.Deep.LoopGhost
import Derived.BigGuardPart
import Derived.BigQuiet
import Derived.Deep.QuietTactic
import Derived.Deep.RegionHeld3
import Derived.Test.YtafokiobbceibaaReg
import Derived.Test.YtafokiobbceibaaReg3
import Derived.Test.YtafokiobbceibaaReg4
namespace Go.Proofs.Ytafokiobbceibaa
open Go.RowKit


theorem pen_any (n m : Int) (w : World) : Calls Try.prog 21 #[.int .i64 n, .int .i64 m] w (Ret (.agg #[.int .i64 39, .int .i64 n, .int .i64 m, .int .i64 0, .int .i64 0, .string ⟨#[]⟩]) w) := by
  go_enter Try.func21, Try.ntmps21
  go_wp2
  go_returns
  exact ⟨rfl, (by repeat' (first | (with_reducible exact Grows.refl _) | (with_reducible refine Grows.alloc ?_ _) | (with_reducible refine Grows.drew ?_) | (with_reducible refine Grows.ext ?_ _ _)))⟩
theorem fore_any (k n : Int) (w : World) : Calls Try.prog 23 #[.int .i64 k, .int .i64 n] w (Ret (.agg #[.int .i64 39, .int .i64 4, .int .i64 0, .int .i64 k, .int .i64 n, .string ⟨#[]⟩]) w) := by
  go_enter Try.func23, Try.ntmps23
  go_wp2
  go_returns
  exact ⟨rfl, (by repeat' (first | (with_reducible exact Grows.refl _) | (with_reducible refine Grows.alloc ?_ _) | (with_reducible refine Grows.drew ?_) | (with_reducible refine Grows.ext ?_ _ _)))⟩
def invB (a : Int) : Bool := bits .and .i64 a 16 != 0
def hidB (a : Int) : Bool := bits .and .i64 a 32 != 0
def pick2 (b : Bool) (x y : Int) : Int := if b then x else y
/-- The colors of the sign and behind it. -/
def seenV (a fk fn bk bn : Int) : Value := .tuple #[.agg #[.int .i64 (pick2 (invB a == hidB a) fk bk), .int .i64 (pick2 (invB a == hidB a) fn bn)], .agg #[.int .i64 (pick2 (invB a) fk bk), .int .i64 (pick2 (invB a) fn bn)]]

set_option maxHeartbeats 2000000 in
theorem seen_any (a u fk fn bk bn lk ln : Int) (w : World) : Calls Try.prog 24 #[.agg #[.int .i64 a, .int .i64 u, .int .i64 fk, .int .i64 fn, .int .i64 bk, .int .i64 bn, .int .i64 lk, .int .i64 ln]] w (Ret (seenV a fk fn bk bn) w) := by
  unfold seenV
  cases e1 : invB a
  all_goals cases e2 : hidB a
  all_goals
    unfold invB at e1
    unfold hidB at e2
    simp only [pick2, beq_self_eq_true, Bool.false_beq, Bool.true_beq, Bool.not_true, Bool.false_eq_true, if_true, if_false]
    go_enter Try.func24, Try.ntmps24
    go_wp2_with fail
    all_goals go_region
    all_goals go_wp2_with fail
    all_goals go_region
    all_goals go_wp2
    all_goals go_returns
    all_goals exact ⟨rfl, (by repeat' (first | (with_reducible exact Grows.refl _) | (with_reducible refine Grows.alloc ?_ _) | (with_reducible refine Grows.drew ?_) | (with_reducible refine Grows.ext ?_ _ _)))⟩

set_option maxHeartbeats 2000000 in
theorem makes_yes (a u fk fn bk bn lk ln a' u' fk' fn' bk' bn' lk' ln' : Int) (sl : Option Addr) (len cap : Nat) (w : World) (H : ∀ W, Grows w W → Calls Try.prog 17 #[.agg #[.int .i64 a, .int .i64 u, .int .i64 fk, .int .i64 fn, .int .i64 bk, .int .i64 bn, .int .i64 lk, .int .i64 ln], .slice sl len cap] W (Ret (.tuple #[.agg #[.int .i64 a', .int .i64 u', .int .i64 fk', .int .i64 fn', .int .i64 bk', .int .i64 bn', .int .i64 lk', .int .i64 ln'], .int .i64 0]) W)) :
    Calls Try.prog 22 #[.agg #[.int .i64 a, .int .i64 u, .int .i64 fk, .int .i64 fn, .int .i64 bk, .int .i64 bn, .int .i64 lk, .int .i64 ln], .agg #[.int .i64 a', .int .i64 u', .int .i64 fk', .int .i64 fn', .int .i64 bk', .int .i64 bn', .int .i64 lk', .int .i64 ln'], .slice sl len cap] w (Ret (.bool true) w) := by
  have HH := Lib.hid H
  clear H
  go_enter Try.func22, Try.ntmps22
  go_wp2_with fail
  refine Calls.mono (HH.out _ (by repeat' (first | (with_reducible exact Grows.refl _) | (with_reducible refine Grows.alloc ?_ _) | (with_reducible refine Grows.drew ?_) | (with_reducible refine Grows.ext ?_ _ _)))) ?_
  rintro e w' ⟨rfl, h1, d1, rfl⟩
  go_wp2
  all_goals first
    | (go_returns; exact ⟨rfl, (by repeat' (first | (with_reducible exact Grows.refl _) | (with_reducible refine Grows.alloc ?_ _) | (with_reducible refine Grows.drew ?_) | (with_reducible refine Grows.ext ?_ _ _)))⟩)
    | (exfalso; simp_all)
end Go.Proofs.Ytafokiobbceibaa
