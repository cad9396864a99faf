/-
  No cell of these rows narrows 'for every input' (looked for: loops, veiled, ifaces, maps, wideKeys, modest, calm, conditions, laid).
  DERIVED. THE GIVEN ROWS OF THIS SEAT. 8 by the template 'for every input the law returns true; each argument reads behind the call as it read before'; 0 by the template 'total and deterministic' (their statements: YtepbknpdhiaepaaTotals.lean).
  GIVEN WITH THE SEED: the statements are not yours to turn. If you find one false, say at which input.
  Laid BY PROGRAM, IN A SANDBOX (cutbox-rows.mjs): the forced cells as the released guide's own fill.sh prints them over the translation ec74564b1ab7a0e7… (all of the seat's roots in one cut). By AI agents, Wed Nov 11 2026. No macro, syntax, notation, axiom, sorry.
-/
import Derived.Test.YtepbknpdhiaepaaChecked
import GoSem.Claim
import GoSem.ClaimJoined
import GoSem.ClaimMapViews
import Derived.JoinedTies
import Derived.KernelRfl
namespace Go.Proofs.Ytepbknpdhiaepaa
/- THE CELL 'sum', in the pinned program and in every row, IS THE sha256 OF THE DUMP (.gsa) THAT YtepbknpdhiaepaaProg.lean LOADS. Nothing in Lean hashes anything: it is a label: what it is worth is what the hold of that sum in a sandbox is worth. -/
noncomputable def Try.pinned : Pinned := { name := "ytepbknpdhiaepaa", sum := "ec74564b1ab7a0e75622f77a85c45dc9f78795978308d15dbbf94c33be1be9f4", checked := Try.checked }
namespace Rows
def none {H : Type} : Left H := { results := [], args := [] }

/-- 'fenestralaw17.CursorMoves': WHATEVER THE INPUT: true; the input reads as it did. -/
def cursorMovesSpec : ChangeSpec := { name := "cursorMoves", fn := fun _ => fun
  | [d1, d2, d3, d4, d5] => { results := [.lit (.bool true)], args := [d1, d2, d3, d4, d5] }
  | _ => none }
def cursorMovesRow : OpenClaim := { program := "ytepbknpdhiaepaa", sum := "ec74564b1ab7a0e75622f77a85c45dc9f78795978308d15dbbf94c33be1be9f4", func := "fenestra/fenestralaw17.CursorMoves", spec := "cursorMoves", unfollowed := true, recurses := true, apart := false }
def CursorMovesSaid : Prop := cursorMovesRow.holds Try.pinned (OpenSpec.ofChange cursorMovesSpec)

/-- ITS FALSE NEIGHBOUR: 'it returns false'. Refute it at one input. -/
def cursorMovesWrong : ChangeSpec := { name := "cursorMoves", fn := fun _ => fun
  | [d1, d2, d3, d4, d5] => { results := [.lit (.bool false)], args := [d1, d2, d3, d4, d5] }
  | _ => none }
def CursorMovesWrongFalsely : Prop := cursorMovesRow.holds Try.pinned (OpenSpec.ofChange cursorMovesWrong)

/-- 'fenestralaw17.CursorMargins': WHATEVER THE INPUT: true; the input reads as it did. -/
def cursorMarginsSpec : ChangeSpec := { name := "cursorMargins", fn := fun _ => fun
  | [d1, d2, d3] => { results := [.lit (.bool true)], args := [d1, d2, d3] }
  | _ => none }
def cursorMarginsRow : OpenClaim := { program := "ytepbknpdhiaepaa", sum := "ec74564b1ab7a0e75622f77a85c45dc9f78795978308d15dbbf94c33be1be9f4", func := "fenestra/fenestralaw17.CursorMargins", spec := "cursorMargins", unfollowed := true, recurses := true, apart := false }
def CursorMarginsSaid : Prop := cursorMarginsRow.holds Try.pinned (OpenSpec.ofChange cursorMarginsSpec)

/-- ITS FALSE NEIGHBOUR: 'it returns false'. Refute it at one input. -/
def cursorMarginsWrong : ChangeSpec := { name := "cursorMargins", fn := fun _ => fun
  | [d1, d2, d3] => { results := [.lit (.bool false)], args := [d1, d2, d3] }
  | _ => none }
def CursorMarginsWrongFalsely : Prop := cursorMarginsRow.holds Try.pinned (OpenSpec.ofChange cursorMarginsWrong)

/-- 'fenestralaw17.CursorAdds': WHATEVER THE INPUT: true; the input reads as it did. -/
def cursorAddsSpec : ChangeSpec := { name := "cursorAdds", fn := fun _ => fun
  | [d1, d2, d3] => { results := [.lit (.bool true)], args := [d1, d2, d3] }
  | _ => none }
def cursorAddsRow : OpenClaim := { program := "ytepbknpdhiaepaa", sum := "ec74564b1ab7a0e75622f77a85c45dc9f78795978308d15dbbf94c33be1be9f4", func := "fenestra/fenestralaw17.CursorAdds", spec := "cursorAdds", unfollowed := true, recurses := true, apart := false }
def CursorAddsSaid : Prop := cursorAddsRow.holds Try.pinned (OpenSpec.ofChange cursorAddsSpec)

/-- ITS FALSE NEIGHBOUR: 'it returns false'. Refute it at one input. -/
def cursorAddsWrong : ChangeSpec := { name := "cursorAdds", fn := fun _ => fun
  | [d1, d2, d3] => { results := [.lit (.bool false)], args := [d1, d2, d3] }
  | _ => none }
def CursorAddsWrongFalsely : Prop := cursorAddsRow.holds Try.pinned (OpenSpec.ofChange cursorAddsWrong)

/-- 'fenestralaw17.CursorPlaces': WHATEVER THE INPUT: true; the input reads as it did. -/
def cursorPlacesSpec : ChangeSpec := { name := "cursorPlaces", fn := fun _ => fun
  | [d] => { results := [.lit (.bool true)], args := [d] }
  | _ => none }
def cursorPlacesRow : OpenClaim := { program := "ytepbknpdhiaepaa", sum := "ec74564b1ab7a0e75622f77a85c45dc9f78795978308d15dbbf94c33be1be9f4", func := "fenestra/fenestralaw17.CursorPlaces", spec := "cursorPlaces", unfollowed := true, recurses := true, apart := false }
def CursorPlacesSaid : Prop := cursorPlacesRow.holds Try.pinned (OpenSpec.ofChange cursorPlacesSpec)

/-- ITS FALSE NEIGHBOUR: 'it returns false'. Refute it at one input. -/
def cursorPlacesWrong : ChangeSpec := { name := "cursorPlaces", fn := fun _ => fun
  | [d] => { results := [.lit (.bool false)], args := [d] }
  | _ => none }
def CursorPlacesWrongFalsely : Prop := cursorPlacesRow.holds Try.pinned (OpenSpec.ofChange cursorPlacesWrong)

/-- 'fenestralaw17.CursorGoes': WHATEVER THE INPUT: true; the input reads as it did. -/
def cursorGoesSpec : ChangeSpec := { name := "cursorGoes", fn := fun _ => fun
  | [d1, d2, d3, d4] => { results := [.lit (.bool true)], args := [d1, d2, d3, d4] }
  | _ => none }
def cursorGoesRow : OpenClaim := { program := "ytepbknpdhiaepaa", sum := "ec74564b1ab7a0e75622f77a85c45dc9f78795978308d15dbbf94c33be1be9f4", func := "fenestra/fenestralaw17.CursorGoes", spec := "cursorGoes", unfollowed := true, recurses := true, apart := false }
def CursorGoesSaid : Prop := cursorGoesRow.holds Try.pinned (OpenSpec.ofChange cursorGoesSpec)

/-- ITS FALSE NEIGHBOUR: 'it returns false'. Refute it at one input. -/
def cursorGoesWrong : ChangeSpec := { name := "cursorGoes", fn := fun _ => fun
  | [d1, d2, d3, d4] => { results := [.lit (.bool false)], args := [d1, d2, d3, d4] }
  | _ => none }
def CursorGoesWrongFalsely : Prop := cursorGoesRow.holds Try.pinned (OpenSpec.ofChange cursorGoesWrong)

/-- 'fenestralaw17.CursorStays': WHATEVER THE INPUT: true; the input reads as it did. -/
def cursorStaysSpec : ChangeSpec := { name := "cursorStays", fn := fun _ => fun
  | [d1, d2] => { results := [.lit (.bool true)], args := [d1, d2] }
  | _ => none }
def cursorStaysRow : OpenClaim := { program := "ytepbknpdhiaepaa", sum := "ec74564b1ab7a0e75622f77a85c45dc9f78795978308d15dbbf94c33be1be9f4", func := "fenestra/fenestralaw17.CursorStays", spec := "cursorStays", unfollowed := true, recurses := true, apart := false }
def CursorStaysSaid : Prop := cursorStaysRow.holds Try.pinned (OpenSpec.ofChange cursorStaysSpec)

/-- ITS FALSE NEIGHBOUR: 'it returns false'. Refute it at one input. -/
def cursorStaysWrong : ChangeSpec := { name := "cursorStays", fn := fun _ => fun
  | [d1, d2] => { results := [.lit (.bool false)], args := [d1, d2] }
  | _ => none }
def CursorStaysWrongFalsely : Prop := cursorStaysRow.holds Try.pinned (OpenSpec.ofChange cursorStaysWrong)

/-- 'fenestralaw17.CursorChecks': WHATEVER THE INPUT: true; the input reads as it did. -/
def cursorChecksSpec : ChangeSpec := { name := "cursorChecks", fn := fun _ => fun
  | [d1, d2, d3, d4, d5] => { results := [.lit (.bool true)], args := [d1, d2, d3, d4, d5] }
  | _ => none }
def cursorChecksRow : OpenClaim := { program := "ytepbknpdhiaepaa", sum := "ec74564b1ab7a0e75622f77a85c45dc9f78795978308d15dbbf94c33be1be9f4", func := "fenestra/fenestralaw17.CursorChecks", spec := "cursorChecks", unfollowed := true, recurses := true, apart := false }
def CursorChecksSaid : Prop := cursorChecksRow.holds Try.pinned (OpenSpec.ofChange cursorChecksSpec)

/-- ITS FALSE NEIGHBOUR: 'it returns false'. Refute it at one input. -/
def cursorChecksWrong : ChangeSpec := { name := "cursorChecks", fn := fun _ => fun
  | [d1, d2, d3, d4, d5] => { results := [.lit (.bool false)], args := [d1, d2, d3, d4, d5] }
  | _ => none }
def CursorChecksWrongFalsely : Prop := cursorChecksRow.holds Try.pinned (OpenSpec.ofChange cursorChecksWrong)

/-- 'fenestralaw17.CursorKnown': WHATEVER THE INPUT: true; the input reads as it did. -/
def cursorKnownSpec : ChangeSpec := { name := "cursorKnown", fn := fun _ => fun
  | [] => { results := [.lit (.bool true)], args := [] }
  | _ => none }
def cursorKnownRow : OpenClaim := { program := "ytepbknpdhiaepaa", sum := "ec74564b1ab7a0e75622f77a85c45dc9f78795978308d15dbbf94c33be1be9f4", func := "fenestra/fenestralaw17.CursorKnown", spec := "cursorKnown", unfollowed := true, recurses := true, apart := false }
def CursorKnownSaid : Prop := cursorKnownRow.holds Try.pinned (OpenSpec.ofChange cursorKnownSpec)

/-- ITS FALSE NEIGHBOUR: 'it returns false'. Refute it at one input. -/
def cursorKnownWrong : ChangeSpec := { name := "cursorKnown", fn := fun _ => fun
  | [] => { results := [.lit (.bool false)], args := [] }
  | _ => none }
def CursorKnownWrongFalsely : Prop := cursorKnownRow.holds Try.pinned (OpenSpec.ofChange cursorKnownWrong)

/- THE SECOND FORM. 'bulk': how many values and letters a reading holds, each counted each time it is reached (what is shared counts as often as it is met; a slice's spare places count too). A statement '..UptoSaid' is the law's where the arguments, and the package variables that the reading takes, are together of bulk at most 1048576: NARROWER than '..Said'. Prove '..Said' where nothing that the law and all that it calls make is longer than what came in: it says more and counts as full. Else prove '..UptoSaid'. A law counts once. -/
mutual
def uptoBulk {H : Type} : DataW H → Nat
  | .lit (.string bytes) => bytes.length + 1
  | .lit _ => 1
  | .nil => 1
  | .ptr d => uptoBulk d + 1
  | .slice elems spare => uptoBulkAll elems + uptoBulkAll spare + 1
  | .agg parts => uptoBulkAll parts + 1
  | .iface _ d => uptoBulk d + 1
  | .map entries => uptoBulkEntries entries + 1
  | .held _ => 1
def uptoBulkAll {H : Type} : List (DataW H) → Nat
  | [] => 0
  | d :: r => uptoBulk d + uptoBulkAll r
def uptoBulkEntries {H : Type} : List (Lit × DataW H) → Nat
  | [] => 0
  | x :: r => uptoBulkEntry x + uptoBulkEntries r
def uptoBulkEntry {H : Type} : Lit × DataW H → Nat
  | (.string bytes, d) => bytes.length + uptoBulk d + 1
  | (_, d) => uptoBulk d + 1
 end
def uptoSmall : (H : Type) → List (DataW H) → Bool := fun _ ds => decide (uptoBulkAll ds ≤ 1048576)
def OpenSpec.upto (s : _root_.Go.ChangeSpec) : _root_.Go.OpenSpec := { _root_.Go.OpenSpec.ofChange s with cond := some uptoSmall }

/-- 'fenestralaw17.CursorMoves', WHERE WHAT IT READS IS OF BULK AT MOST 1048576: true; the input reads as it did. -/
def cursorMovesUptoRow : OpenClaim := { program := "ytepbknpdhiaepaa", sum := "ec74564b1ab7a0e75622f77a85c45dc9f78795978308d15dbbf94c33be1be9f4", func := "fenestra/fenestralaw17.CursorMoves", spec := "cursorMoves", unfollowed := true, recurses := true, apart := false, narrowed := true }
def CursorMovesUptoSaid : Prop := cursorMovesUptoRow.holds Try.pinned (OpenSpec.upto cursorMovesSpec)

/-- 'fenestralaw17.CursorMargins', WHERE WHAT IT READS IS OF BULK AT MOST 1048576: true; the input reads as it did. -/
def cursorMarginsUptoRow : OpenClaim := { program := "ytepbknpdhiaepaa", sum := "ec74564b1ab7a0e75622f77a85c45dc9f78795978308d15dbbf94c33be1be9f4", func := "fenestra/fenestralaw17.CursorMargins", spec := "cursorMargins", unfollowed := true, recurses := true, apart := false, narrowed := true }
def CursorMarginsUptoSaid : Prop := cursorMarginsUptoRow.holds Try.pinned (OpenSpec.upto cursorMarginsSpec)

/-- 'fenestralaw17.CursorAdds', WHERE WHAT IT READS IS OF BULK AT MOST 1048576: true; the input reads as it did. -/
def cursorAddsUptoRow : OpenClaim := { program := "ytepbknpdhiaepaa", sum := "ec74564b1ab7a0e75622f77a85c45dc9f78795978308d15dbbf94c33be1be9f4", func := "fenestra/fenestralaw17.CursorAdds", spec := "cursorAdds", unfollowed := true, recurses := true, apart := false, narrowed := true }
def CursorAddsUptoSaid : Prop := cursorAddsUptoRow.holds Try.pinned (OpenSpec.upto cursorAddsSpec)

/-- 'fenestralaw17.CursorPlaces', WHERE WHAT IT READS IS OF BULK AT MOST 1048576: true; the input reads as it did. -/
def cursorPlacesUptoRow : OpenClaim := { program := "ytepbknpdhiaepaa", sum := "ec74564b1ab7a0e75622f77a85c45dc9f78795978308d15dbbf94c33be1be9f4", func := "fenestra/fenestralaw17.CursorPlaces", spec := "cursorPlaces", unfollowed := true, recurses := true, apart := false, narrowed := true }
def CursorPlacesUptoSaid : Prop := cursorPlacesUptoRow.holds Try.pinned (OpenSpec.upto cursorPlacesSpec)

/-- 'fenestralaw17.CursorGoes', WHERE WHAT IT READS IS OF BULK AT MOST 1048576: true; the input reads as it did. -/
def cursorGoesUptoRow : OpenClaim := { program := "ytepbknpdhiaepaa", sum := "ec74564b1ab7a0e75622f77a85c45dc9f78795978308d15dbbf94c33be1be9f4", func := "fenestra/fenestralaw17.CursorGoes", spec := "cursorGoes", unfollowed := true, recurses := true, apart := false, narrowed := true }
def CursorGoesUptoSaid : Prop := cursorGoesUptoRow.holds Try.pinned (OpenSpec.upto cursorGoesSpec)

/-- 'fenestralaw17.CursorStays', WHERE WHAT IT READS IS OF BULK AT MOST 1048576: true; the input reads as it did. -/
def cursorStaysUptoRow : OpenClaim := { program := "ytepbknpdhiaepaa", sum := "ec74564b1ab7a0e75622f77a85c45dc9f78795978308d15dbbf94c33be1be9f4", func := "fenestra/fenestralaw17.CursorStays", spec := "cursorStays", unfollowed := true, recurses := true, apart := false, narrowed := true }
def CursorStaysUptoSaid : Prop := cursorStaysUptoRow.holds Try.pinned (OpenSpec.upto cursorStaysSpec)

/-- 'fenestralaw17.CursorChecks', WHERE WHAT IT READS IS OF BULK AT MOST 1048576: true; the input reads as it did. -/
def cursorChecksUptoRow : OpenClaim := { program := "ytepbknpdhiaepaa", sum := "ec74564b1ab7a0e75622f77a85c45dc9f78795978308d15dbbf94c33be1be9f4", func := "fenestra/fenestralaw17.CursorChecks", spec := "cursorChecks", unfollowed := true, recurses := true, apart := false, narrowed := true }
def CursorChecksUptoSaid : Prop := cursorChecksUptoRow.holds Try.pinned (OpenSpec.upto cursorChecksSpec)

/-- 'fenestralaw17.CursorKnown', WHERE WHAT IT READS IS OF BULK AT MOST 1048576: true; the input reads as it did. -/
def cursorKnownUptoRow : OpenClaim := { program := "ytepbknpdhiaepaa", sum := "ec74564b1ab7a0e75622f77a85c45dc9f78795978308d15dbbf94c33be1be9f4", func := "fenestra/fenestralaw17.CursorKnown", spec := "cursorKnown", unfollowed := true, recurses := true, apart := false, narrowed := true }
def CursorKnownUptoSaid : Prop := cursorKnownUptoRow.holds Try.pinned (OpenSpec.upto cursorKnownSpec)

end Rows
end Go.Proofs.Ytepbknpdhiaepaa
