/-
  NARROWER THAN 'FOR EVERY INPUT', by the rows' own cells (each row's printed sentence says how): LayoutTiles: loops · LayoutChecks: loops · LayoutEdits: loops.
  DERIVED. THE GIVEN ROWS OF THIS SEAT. 6 by the template 'for every input the law returns true; each argument reads behind the call as it read before'; 0 by the template 'total and deterministic' (their statements: YtbobpgegkmcapaaTotals.lean).
  GIVEN WITH THE SEED: the statements are not yours to turn. If you find one false, say at which input.
  Laid BY PROGRAM, IN A SANDBOX (cutbox-rows.mjs): the forced cells as the released guide's own fill.sh prints them over the translation e2705d4c914f5e63… (all of the seat's roots in one cut). By AI agents, Wed Nov 11 2026. No macro, syntax, notation, axiom, sorry.
-/
import Derived.Test.YtbobpgegkmcapaaChecked
import GoSem.Claim
import GoSem.ClaimJoined
import GoSem.ClaimMapViews
import Derived.JoinedTies
import Derived.KernelRfl
namespace Go.Proofs.Ytbobpgegkmcapaa
/- THE CELL 'sum', in the pinned program and in every row, IS THE sha256 OF THE DUMP (.gsa) THAT YtbobpgegkmcapaaProg.lean LOADS. Nothing in Lean hashes anything: it is a label: what it is worth is what the hold of that sum in a sandbox is worth. -/
noncomputable def Try.pinned : Pinned := { name := "ytbobpgegkmcapaa", sum := "e2705d4c914f5e63b8aeca99a845c683afc1f4b8bb7d184f0587f0b31f06bf93", checked := Try.checked }
namespace Rows
def none {H : Type} : Left H := { results := [], args := [] }

/-- 'fenestralaw34.LayoutTiles': WHATEVER THE INPUT: true; the input reads as it did. -/
def layoutTilesSpec : ChangeSpec := { name := "layoutTiles", fn := fun _ => fun
  | [d1, d2] => { results := [.lit (.bool true)], args := [d1, d2] }
  | _ => none }
def layoutTilesRow : OpenClaim := { program := "ytbobpgegkmcapaa", sum := "e2705d4c914f5e63b8aeca99a845c683afc1f4b8bb7d184f0587f0b31f06bf93", func := "fenestra/fenestralaw34.LayoutTiles", spec := "layoutTiles", unfollowed := true, recurses := true, loops := true, apart := false }
def LayoutTilesSaid : Prop := layoutTilesRow.holds Try.pinned (OpenSpec.ofChange layoutTilesSpec)

/-- ITS FALSE NEIGHBOUR: 'it returns false'. Refute it at one input. -/
def layoutTilesWrong : ChangeSpec := { name := "layoutTiles", fn := fun _ => fun
  | [d1, d2] => { results := [.lit (.bool false)], args := [d1, d2] }
  | _ => none }
def LayoutTilesWrongFalsely : Prop := layoutTilesRow.holds Try.pinned (OpenSpec.ofChange layoutTilesWrong)

/-- 'fenestralaw34.LayoutChecks': WHATEVER THE INPUT: true; the input reads as it did. -/
def layoutChecksSpec : ChangeSpec := { name := "layoutChecks", fn := fun _ => fun
  | [d1, d2] => { results := [.lit (.bool true)], args := [d1, d2] }
  | _ => none }
def layoutChecksRow : OpenClaim := { program := "ytbobpgegkmcapaa", sum := "e2705d4c914f5e63b8aeca99a845c683afc1f4b8bb7d184f0587f0b31f06bf93", func := "fenestra/fenestralaw34.LayoutChecks", spec := "layoutChecks", unfollowed := true, recurses := true, loops := true, apart := false }
def LayoutChecksSaid : Prop := layoutChecksRow.holds Try.pinned (OpenSpec.ofChange layoutChecksSpec)

/-- ITS FALSE NEIGHBOUR: 'it returns false'. Refute it at one input. -/
def layoutChecksWrong : ChangeSpec := { name := "layoutChecks", fn := fun _ => fun
  | [d1, d2] => { results := [.lit (.bool false)], args := [d1, d2] }
  | _ => none }
def LayoutChecksWrongFalsely : Prop := layoutChecksRow.holds Try.pinned (OpenSpec.ofChange layoutChecksWrong)

/-- 'fenestralaw34.LayoutEdits': WHATEVER THE INPUT: true; the input reads as it did. -/
def layoutEditsSpec : ChangeSpec := { name := "layoutEdits", fn := fun _ => fun
  | [d1, d2] => { results := [.lit (.bool true)], args := [d1, d2] }
  | _ => none }
def layoutEditsRow : OpenClaim := { program := "ytbobpgegkmcapaa", sum := "e2705d4c914f5e63b8aeca99a845c683afc1f4b8bb7d184f0587f0b31f06bf93", func := "fenestra/fenestralaw34.LayoutEdits", spec := "layoutEdits", unfollowed := true, recurses := true, loops := true, apart := false }
def LayoutEditsSaid : Prop := layoutEditsRow.holds Try.pinned (OpenSpec.ofChange layoutEditsSpec)

/-- ITS FALSE NEIGHBOUR: 'it returns false'. Refute it at one input. -/
def layoutEditsWrong : ChangeSpec := { name := "layoutEdits", fn := fun _ => fun
  | [d1, d2] => { results := [.lit (.bool false)], args := [d1, d2] }
  | _ => none }
def LayoutEditsWrongFalsely : Prop := layoutEditsRow.holds Try.pinned (OpenSpec.ofChange layoutEditsWrong)

/-- 'fenestralaw34.LayoutCovers': WHATEVER THE INPUT: true; the input reads as it did. -/
def layoutCoversSpec : ChangeSpec := { name := "layoutCovers", fn := fun _ => fun
  | [d1, d2] => { results := [.lit (.bool true)], args := [d1, d2] }
  | _ => none }
def layoutCoversRow : OpenClaim := { program := "ytbobpgegkmcapaa", sum := "e2705d4c914f5e63b8aeca99a845c683afc1f4b8bb7d184f0587f0b31f06bf93", func := "fenestra/fenestralaw34.LayoutCovers", spec := "layoutCovers", unfollowed := true, recurses := true, apart := false }
def LayoutCoversSaid : Prop := layoutCoversRow.holds Try.pinned (OpenSpec.ofChange layoutCoversSpec)

/-- ITS FALSE NEIGHBOUR: 'it returns false'. Refute it at one input. -/
def layoutCoversWrong : ChangeSpec := { name := "layoutCovers", fn := fun _ => fun
  | [d1, d2] => { results := [.lit (.bool false)], args := [d1, d2] }
  | _ => none }
def LayoutCoversWrongFalsely : Prop := layoutCoversRow.holds Try.pinned (OpenSpec.ofChange layoutCoversWrong)

/-- 'fenestralaw34.LayoutOrders': WHATEVER THE INPUT: true; the input reads as it did. -/
def layoutOrdersSpec : ChangeSpec := { name := "layoutOrders", fn := fun _ => fun
  | [d1, d2, d3, d4, d5] => { results := [.lit (.bool true)], args := [d1, d2, d3, d4, d5] }
  | _ => none }
def layoutOrdersRow : OpenClaim := { program := "ytbobpgegkmcapaa", sum := "e2705d4c914f5e63b8aeca99a845c683afc1f4b8bb7d184f0587f0b31f06bf93", func := "fenestra/fenestralaw34.LayoutOrders", spec := "layoutOrders", unfollowed := true, recurses := true, apart := false }
def LayoutOrdersSaid : Prop := layoutOrdersRow.holds Try.pinned (OpenSpec.ofChange layoutOrdersSpec)

/-- ITS FALSE NEIGHBOUR: 'it returns false'. Refute it at one input. -/
def layoutOrdersWrong : ChangeSpec := { name := "layoutOrders", fn := fun _ => fun
  | [d1, d2, d3, d4, d5] => { results := [.lit (.bool false)], args := [d1, d2, d3, d4, d5] }
  | _ => none }
def LayoutOrdersWrongFalsely : Prop := layoutOrdersRow.holds Try.pinned (OpenSpec.ofChange layoutOrdersWrong)

/-- 'fenestralaw34.LayoutUndoes': WHATEVER THE INPUT: true; the input reads as it did. -/
def layoutUndoesSpec : ChangeSpec := { name := "layoutUndoes", fn := fun _ => fun
  | [d1, d2, d3, d4] => { results := [.lit (.bool true)], args := [d1, d2, d3, d4] }
  | _ => none }
def layoutUndoesRow : OpenClaim := { program := "ytbobpgegkmcapaa", sum := "e2705d4c914f5e63b8aeca99a845c683afc1f4b8bb7d184f0587f0b31f06bf93", func := "fenestra/fenestralaw34.LayoutUndoes", spec := "layoutUndoes", inPlace := ["slices.overlaps[int]"], unfollowed := true, recurses := true, apart := false }
def LayoutUndoesSaid : Prop := layoutUndoesRow.holds Try.pinned (OpenSpec.ofChange layoutUndoesSpec)

/-- ITS FALSE NEIGHBOUR: 'it returns false'. Refute it at one input. -/
def layoutUndoesWrong : ChangeSpec := { name := "layoutUndoes", fn := fun _ => fun
  | [d1, d2, d3, d4] => { results := [.lit (.bool false)], args := [d1, d2, d3, d4] }
  | _ => none }
def LayoutUndoesWrongFalsely : Prop := layoutUndoesRow.holds Try.pinned (OpenSpec.ofChange layoutUndoesWrong)

/- THE SECOND FORM. 'bulk': how many values and letters a reading holds, each counted each time it is reached (what is shared counts as often as it is met; a slice's spare places count too). A statement '..UptoSaid' is the law's where the arguments, and the package variables that the reading takes, are together of bulk at most 1048576: NARROWER than '..Said'. Prove '..Said' where nothing that the law and all that it calls make is longer than what came in: it says more and counts as full. Else prove '..UptoSaid'. A law counts once. -/
mutual
def uptoBulk {H : Type} : DataW H → Nat
  | .lit (.string bytes) => bytes.length + 1
  | .lit _ => 1
  | .nil => 1
  | .ptr d => uptoBulk d + 1
  | .slice elems spare => uptoBulkAll elems + uptoBulkAll spare + 1
  | .agg parts => uptoBulkAll parts + 1
  | .iface _ d => uptoBulk d + 1
  | .map entries => uptoBulkEntries entries + 1
  | .held _ => 1
def uptoBulkAll {H : Type} : List (DataW H) → Nat
  | [] => 0
  | d :: r => uptoBulk d + uptoBulkAll r
def uptoBulkEntries {H : Type} : List (Lit × DataW H) → Nat
  | [] => 0
  | x :: r => uptoBulkEntry x + uptoBulkEntries r
def uptoBulkEntry {H : Type} : Lit × DataW H → Nat
  | (.string bytes, d) => bytes.length + uptoBulk d + 1
  | (_, d) => uptoBulk d + 1
 end
def uptoSmall : (H : Type) → List (DataW H) → Bool := fun _ ds => decide (uptoBulkAll ds ≤ 1048576)
def OpenSpec.upto (s : _root_.Go.ChangeSpec) : _root_.Go.OpenSpec := { _root_.Go.OpenSpec.ofChange s with cond := some uptoSmall }

/-- 'fenestralaw34.LayoutTiles', WHERE WHAT IT READS IS OF BULK AT MOST 1048576: true; the input reads as it did. -/
def layoutTilesUptoRow : OpenClaim := { program := "ytbobpgegkmcapaa", sum := "e2705d4c914f5e63b8aeca99a845c683afc1f4b8bb7d184f0587f0b31f06bf93", func := "fenestra/fenestralaw34.LayoutTiles", spec := "layoutTiles", unfollowed := true, recurses := true, loops := true, apart := false, narrowed := true }
def LayoutTilesUptoSaid : Prop := layoutTilesUptoRow.holds Try.pinned (OpenSpec.upto layoutTilesSpec)

/-- 'fenestralaw34.LayoutChecks', WHERE WHAT IT READS IS OF BULK AT MOST 1048576: true; the input reads as it did. -/
def layoutChecksUptoRow : OpenClaim := { program := "ytbobpgegkmcapaa", sum := "e2705d4c914f5e63b8aeca99a845c683afc1f4b8bb7d184f0587f0b31f06bf93", func := "fenestra/fenestralaw34.LayoutChecks", spec := "layoutChecks", unfollowed := true, recurses := true, loops := true, apart := false, narrowed := true }
def LayoutChecksUptoSaid : Prop := layoutChecksUptoRow.holds Try.pinned (OpenSpec.upto layoutChecksSpec)

/-- 'fenestralaw34.LayoutEdits', WHERE WHAT IT READS IS OF BULK AT MOST 1048576: true; the input reads as it did. -/
def layoutEditsUptoRow : OpenClaim := { program := "ytbobpgegkmcapaa", sum := "e2705d4c914f5e63b8aeca99a845c683afc1f4b8bb7d184f0587f0b31f06bf93", func := "fenestra/fenestralaw34.LayoutEdits", spec := "layoutEdits", unfollowed := true, recurses := true, loops := true, apart := false, narrowed := true }
def LayoutEditsUptoSaid : Prop := layoutEditsUptoRow.holds Try.pinned (OpenSpec.upto layoutEditsSpec)

/-- 'fenestralaw34.LayoutCovers', WHERE WHAT IT READS IS OF BULK AT MOST 1048576: true; the input reads as it did. -/
def layoutCoversUptoRow : OpenClaim := { program := "ytbobpgegkmcapaa", sum := "e2705d4c914f5e63b8aeca99a845c683afc1f4b8bb7d184f0587f0b31f06bf93", func := "fenestra/fenestralaw34.LayoutCovers", spec := "layoutCovers", unfollowed := true, recurses := true, apart := false, narrowed := true }
def LayoutCoversUptoSaid : Prop := layoutCoversUptoRow.holds Try.pinned (OpenSpec.upto layoutCoversSpec)

/-- 'fenestralaw34.LayoutOrders', WHERE WHAT IT READS IS OF BULK AT MOST 1048576: true; the input reads as it did. -/
def layoutOrdersUptoRow : OpenClaim := { program := "ytbobpgegkmcapaa", sum := "e2705d4c914f5e63b8aeca99a845c683afc1f4b8bb7d184f0587f0b31f06bf93", func := "fenestra/fenestralaw34.LayoutOrders", spec := "layoutOrders", unfollowed := true, recurses := true, apart := false, narrowed := true }
def LayoutOrdersUptoSaid : Prop := layoutOrdersUptoRow.holds Try.pinned (OpenSpec.upto layoutOrdersSpec)

/-- 'fenestralaw34.LayoutUndoes', WHERE WHAT IT READS IS OF BULK AT MOST 1048576: true; the input reads as it did. -/
def layoutUndoesUptoRow : OpenClaim := { program := "ytbobpgegkmcapaa", sum := "e2705d4c914f5e63b8aeca99a845c683afc1f4b8bb7d184f0587f0b31f06bf93", func := "fenestra/fenestralaw34.LayoutUndoes", spec := "layoutUndoes", inPlace := ["slices.overlaps[int]"], unfollowed := true, recurses := true, apart := false, narrowed := true }
def LayoutUndoesUptoSaid : Prop := layoutUndoesUptoRow.holds Try.pinned (OpenSpec.upto layoutUndoesSpec)

end Rows
end Go.Proofs.Ytbobpgegkmcapaa
