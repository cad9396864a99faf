/-
  Walk: CheckPen.
-/
import Derived.Test.YtafokiobbceibaaRows
import Derived.Test.YtafokiobbceibaaLt
import Derived.Test.YtafokiobbceibaaDefs
import Derived.Test.YtafokiobbceibaaBits
import Derived.Test.YtafokiobbceibaaMaps
import Derived.Test.YtafokiobbceibaaW5
import Derived.Test.YtafokiobbceibaaC0
import Derived.Test.YtafokiobbceibaaC1
import Derived.Test.YtafokiobbceibaaC2
import Derived.Test.YtafokiobbceibaaC3
import Derived.Test.YtafokiobbceibaaC4
import Derived.Test.YtafokiobbceibaaC5
import Derived.Test.YtafokiobbceibaaC6
import Derived.Test.YtafokiobbceibaaC7
import Derived.WalkKit
import Derived.WalkSpells
import Derived.WalkLawsBesides
import Derived.Handy
import Derived.Laws.EntriesVeiled
import Derived.Lib.Hide
import Derived.Deep.Light
import Derived.Deep.LoopGhost
import Derived.BigGuardPart
import Derived.BigQuiet
import Derived.Deep.QuietTactic
import Derived.Deep.RegionHeld3
import Derived.Test.YtafokiobbceibaaReg
import Derived.Test.YtafokiobbceibaaReg3
import Derived.Test.YtafokiobbceibaaReg4
namespace Go.Proofs.Ytafokiobbceibaa
open Go.RowKit


theorem checkPen_any (kd n m ck cn : Int) (s : ByteArray) (hi : In64 m) (w : World) : Calls Try.prog 14 #[.agg #[.int .i64 kd, .int .i64 n, .int .i64 m, .int .i64 ck, .int .i64 cn, .string s]] w (Ret (.int .i64 (pnErr kd n m ck cn s)) w) := by
  by_cases hn : 0 ≤ n ∧ n ≤ 6
  · have h : n = 0 ∨ n = 1 ∨ n = 2 ∨ n = 3 ∨ n = 4 ∨ n = 5 ∨ n = 6 := by omega
    rcases h with rfl | rfl | rfl | rfl | rfl | rfl | rfl
    · exact checkPen_0 kd m ck cn s hi w
    · exact checkPen_1 kd m ck cn s hi w
    · exact checkPen_2 kd m ck cn s hi w
    · exact checkPen_3 kd m ck cn s hi w
    · exact checkPen_4 kd m ck cn s hi w
    · exact checkPen_5 kd m ck cn s hi w
    · exact checkPen_6 kd m ck cn s hi w
  · exact checkPen_7 kd n m ck cn s hn hi w
end Go.Proofs.Ytafokiobbceibaa
