/-
  A slice of drafts as an argument.
-/
import Derived.Test.YtafokiobbceibaaRows
import Derived.Test.YtafokiobbceibaaDrf
import Derived.Test.YtafokiobbceibaaW22
import Derived.WalkKit
import Derived.WalkSpells
import Derived.WalkLawsBesides
import Derived.Handy
import Derived.Laws.EntriesVeiled
import Derived.Lib.Hide
import Derived.Deep.Light
import Derived.Deep.LoopGhost
import Derived.BigGuardPart
import Derived.BigQuiet
import Derived.Deep.QuietTactic
import Derived.Deep.RegionHeld3
import Derived.Test.YtafokiobbceibaaBase
import Derived.Test.YtafokiobbceibaaReg
import Derived.Test.YtafokiobbceibaaReg3
import Derived.Test.YtafokiobbceibaaReg4
namespace Go.Proofs.Ytafokiobbceibaa
open Go.RowKit


theorem drfs_of2 {H : Type} {enc : TypeId × Value → H} {w : World} {v : Value} {d : DataW H} {p : List MemPlace} {sp : Nat → Bool} {held : Bool} {r : Reach} {b : Nat} (hv : Value.okWide Try.prog w r b 42 v) (h : DataW.Trod enc Try.prog w 0 sp held 42 v d p) : ∃ oa n c, v = .slice oa n c ∧ n ≤ c ∧ Drfs w oa n := by
  rcases open_drafts hv h with ⟨oa, c, rfl⟩ | ⟨bl, off, n, c, F, rfl, -, hc, hn, -, hF, hA⟩
  · exact ⟨oa, 0, c, rfl, by omega, by omega, fun i hi => by omega⟩
  · exact ⟨_, n, c, rfl, hc, hn, fun i hi => ⟨bl, off, F i, rfl, hF i hi, hA i hi⟩⟩
end Go.Proofs.Ytafokiobbceibaa
