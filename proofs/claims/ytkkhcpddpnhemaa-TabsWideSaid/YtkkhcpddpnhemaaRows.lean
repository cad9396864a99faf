/-
  No cell of these rows narrows 'for every input' (looked for: loops, veiled, ifaces, maps, wideKeys, modest, calm, conditions, laid).
  DERIVED. THE GIVEN ROWS OF THIS SEAT. 7 by the template 'for every input the law returns true; each argument reads behind the call as it read before'; 0 by the template 'total and deterministic' (their statements: YtkkhcpddpnhemaaTotals.lean).
  GIVEN WITH THE SEED: the statements are not yours to turn. If you find one false, say at which input.
  Laid BY PROGRAM, IN A SANDBOX (cutbox-rows.mjs): the forced cells as the released guide's own fill.sh prints them over the translation 8e204c2aeb84ef03… (all of the seat's roots in one cut). By AI agents, Wed Nov 11 2026. No macro, syntax, notation, axiom, sorry.
-/
import Derived.Test.YtkkhcpddpnhemaaChecked
import GoSem.Claim
import GoSem.ClaimJoined
import GoSem.ClaimMapViews
import Derived.JoinedTies
import Derived.KernelRfl
namespace Go.Proofs.Ytkkhcpddpnhemaa
/- THE CELL 'sum', in the pinned program and in every row, IS THE sha256 OF THE DUMP (.gsa) THAT YtkkhcpddpnhemaaProg.lean LOADS. Nothing in Lean hashes anything: it is a label: what it is worth is what the hold of that sum in a sandbox is worth. -/
noncomputable def Try.pinned : Pinned := { name := "ytkkhcpddpnhemaa", sum := "8e204c2aeb84ef0377dacfd4dff61cd2147699706b5d27c097b1c351a3b8078f", checked := Try.checked }
namespace Rows
def none {H : Type} : Left H := { results := [], args := [] }

/-- 'fenestralaw14.TabsTell': WHATEVER THE INPUT: true; the input reads as it did. -/
def tabsTellSpec : ChangeSpec := { name := "tabsTell", fn := fun _ => fun
  | [d1, d2, d3, d4, d5] => { results := [.lit (.bool true)], args := [d1, d2, d3, d4, d5] }
  | _ => none }
def tabsTellRow : OpenClaim := { program := "ytkkhcpddpnhemaa", sum := "8e204c2aeb84ef0377dacfd4dff61cd2147699706b5d27c097b1c351a3b8078f", func := "fenestra/fenestralaw14.TabsTell", spec := "tabsTell", unfollowed := true, recurses := true, apart := false }
def TabsTellSaid : Prop := tabsTellRow.holds Try.pinned (OpenSpec.ofChange tabsTellSpec)

/-- ITS FALSE NEIGHBOUR: 'it returns false'. Refute it at one input. -/
def tabsTellWrong : ChangeSpec := { name := "tabsTell", fn := fun _ => fun
  | [d1, d2, d3, d4, d5] => { results := [.lit (.bool false)], args := [d1, d2, d3, d4, d5] }
  | _ => none }
def TabsTellWrongFalsely : Prop := tabsTellRow.holds Try.pinned (OpenSpec.ofChange tabsTellWrong)

/-- 'fenestralaw14.TabsTurn': WHATEVER THE INPUT: true; the input reads as it did. -/
def tabsTurnSpec : ChangeSpec := { name := "tabsTurn", fn := fun _ => fun
  | [d1, d2, d3, d4, d5] => { results := [.lit (.bool true)], args := [d1, d2, d3, d4, d5] }
  | _ => none }
def tabsTurnRow : OpenClaim := { program := "ytkkhcpddpnhemaa", sum := "8e204c2aeb84ef0377dacfd4dff61cd2147699706b5d27c097b1c351a3b8078f", func := "fenestra/fenestralaw14.TabsTurn", spec := "tabsTurn", unfollowed := true, recurses := true, apart := false }
def TabsTurnSaid : Prop := tabsTurnRow.holds Try.pinned (OpenSpec.ofChange tabsTurnSpec)

/-- ITS FALSE NEIGHBOUR: 'it returns false'. Refute it at one input. -/
def tabsTurnWrong : ChangeSpec := { name := "tabsTurn", fn := fun _ => fun
  | [d1, d2, d3, d4, d5] => { results := [.lit (.bool false)], args := [d1, d2, d3, d4, d5] }
  | _ => none }
def TabsTurnWrongFalsely : Prop := tabsTurnRow.holds Try.pinned (OpenSpec.ofChange tabsTurnWrong)

/-- 'fenestralaw14.TabsSteps': WHATEVER THE INPUT: true; the input reads as it did. -/
def tabsStepsSpec : ChangeSpec := { name := "tabsSteps", fn := fun _ => fun
  | [d1, d2, d3, d4] => { results := [.lit (.bool true)], args := [d1, d2, d3, d4] }
  | _ => none }
def tabsStepsRow : OpenClaim := { program := "ytkkhcpddpnhemaa", sum := "8e204c2aeb84ef0377dacfd4dff61cd2147699706b5d27c097b1c351a3b8078f", func := "fenestra/fenestralaw14.TabsSteps", spec := "tabsSteps", unfollowed := true, recurses := true, apart := false }
def TabsStepsSaid : Prop := tabsStepsRow.holds Try.pinned (OpenSpec.ofChange tabsStepsSpec)

/-- ITS FALSE NEIGHBOUR: 'it returns false'. Refute it at one input. -/
def tabsStepsWrong : ChangeSpec := { name := "tabsSteps", fn := fun _ => fun
  | [d1, d2, d3, d4] => { results := [.lit (.bool false)], args := [d1, d2, d3, d4] }
  | _ => none }
def TabsStepsWrongFalsely : Prop := tabsStepsRow.holds Try.pinned (OpenSpec.ofChange tabsStepsWrong)

/-- 'fenestralaw14.TabsThere': WHATEVER THE INPUT: true; the input reads as it did. -/
def tabsThereSpec : ChangeSpec := { name := "tabsThere", fn := fun _ => fun
  | [d1, d2, d3] => { results := [.lit (.bool true)], args := [d1, d2, d3] }
  | _ => none }
def tabsThereRow : OpenClaim := { program := "ytkkhcpddpnhemaa", sum := "8e204c2aeb84ef0377dacfd4dff61cd2147699706b5d27c097b1c351a3b8078f", func := "fenestra/fenestralaw14.TabsThere", spec := "tabsThere", unfollowed := true, recurses := true, apart := false }
def TabsThereSaid : Prop := tabsThereRow.holds Try.pinned (OpenSpec.ofChange tabsThereSpec)

/-- ITS FALSE NEIGHBOUR: 'it returns false'. Refute it at one input. -/
def tabsThereWrong : ChangeSpec := { name := "tabsThere", fn := fun _ => fun
  | [d1, d2, d3] => { results := [.lit (.bool false)], args := [d1, d2, d3] }
  | _ => none }
def TabsThereWrongFalsely : Prop := tabsThereRow.holds Try.pinned (OpenSpec.ofChange tabsThereWrong)

/-- 'fenestralaw14.TabsWide': WHATEVER THE INPUT: true; the input reads as it did. -/
def tabsWideSpec : ChangeSpec := { name := "tabsWide", fn := fun _ => fun
  | [d1, d2, d3, d4, d5] => { results := [.lit (.bool true)], args := [d1, d2, d3, d4, d5] }
  | _ => none }
def tabsWideRow : OpenClaim := { program := "ytkkhcpddpnhemaa", sum := "8e204c2aeb84ef0377dacfd4dff61cd2147699706b5d27c097b1c351a3b8078f", func := "fenestra/fenestralaw14.TabsWide", spec := "tabsWide", unfollowed := true, recurses := true, apart := false }
def TabsWideSaid : Prop := tabsWideRow.holds Try.pinned (OpenSpec.ofChange tabsWideSpec)

/-- ITS FALSE NEIGHBOUR: 'it returns false'. Refute it at one input. -/
def tabsWideWrong : ChangeSpec := { name := "tabsWide", fn := fun _ => fun
  | [d1, d2, d3, d4, d5] => { results := [.lit (.bool false)], args := [d1, d2, d3, d4, d5] }
  | _ => none }
def TabsWideWrongFalsely : Prop := tabsWideRow.holds Try.pinned (OpenSpec.ofChange tabsWideWrong)

/-- 'fenestralaw14.TabsMake': WHATEVER THE INPUT: true; the input reads as it did. -/
def tabsMakeSpec : ChangeSpec := { name := "tabsMake", fn := fun _ => fun
  | [d1, d2, d3, d4] => { results := [.lit (.bool true)], args := [d1, d2, d3, d4] }
  | _ => none }
def tabsMakeRow : OpenClaim := { program := "ytkkhcpddpnhemaa", sum := "8e204c2aeb84ef0377dacfd4dff61cd2147699706b5d27c097b1c351a3b8078f", func := "fenestra/fenestralaw14.TabsMake", spec := "tabsMake", unfollowed := true, recurses := true, apart := false }
def TabsMakeSaid : Prop := tabsMakeRow.holds Try.pinned (OpenSpec.ofChange tabsMakeSpec)

/-- ITS FALSE NEIGHBOUR: 'it returns false'. Refute it at one input. -/
def tabsMakeWrong : ChangeSpec := { name := "tabsMake", fn := fun _ => fun
  | [d1, d2, d3, d4] => { results := [.lit (.bool false)], args := [d1, d2, d3, d4] }
  | _ => none }
def TabsMakeWrongFalsely : Prop := tabsMakeRow.holds Try.pinned (OpenSpec.ofChange tabsMakeWrong)

/-- 'fenestralaw14.TabsKnown': WHATEVER THE INPUT: true; the input reads as it did. -/
def tabsKnownSpec : ChangeSpec := { name := "tabsKnown", fn := fun _ => fun
  | [] => { results := [.lit (.bool true)], args := [] }
  | _ => none }
def tabsKnownRow : OpenClaim := { program := "ytkkhcpddpnhemaa", sum := "8e204c2aeb84ef0377dacfd4dff61cd2147699706b5d27c097b1c351a3b8078f", func := "fenestra/fenestralaw14.TabsKnown", spec := "tabsKnown", unfollowed := true, recurses := true, apart := false }
def TabsKnownSaid : Prop := tabsKnownRow.holds Try.pinned (OpenSpec.ofChange tabsKnownSpec)

/-- ITS FALSE NEIGHBOUR: 'it returns false'. Refute it at one input. -/
def tabsKnownWrong : ChangeSpec := { name := "tabsKnown", fn := fun _ => fun
  | [] => { results := [.lit (.bool false)], args := [] }
  | _ => none }
def TabsKnownWrongFalsely : Prop := tabsKnownRow.holds Try.pinned (OpenSpec.ofChange tabsKnownWrong)

/- THE SECOND FORM. 'bulk': how many values and letters a reading holds, each counted each time it is reached (what is shared counts as often as it is met; a slice's spare places count too). A statement '..UptoSaid' is the law's where the arguments, and the package variables that the reading takes, are together of bulk at most 1048576: NARROWER than '..Said'. Prove '..Said' where nothing that the law and all that it calls make is longer than what came in: it says more and counts as full. Else prove '..UptoSaid'. A law counts once. -/
mutual
def uptoBulk {H : Type} : DataW H → Nat
  | .lit (.string bytes) => bytes.length + 1
  | .lit _ => 1
  | .nil => 1
  | .ptr d => uptoBulk d + 1
  | .slice elems spare => uptoBulkAll elems + uptoBulkAll spare + 1
  | .agg parts => uptoBulkAll parts + 1
  | .iface _ d => uptoBulk d + 1
  | .map entries => uptoBulkEntries entries + 1
  | .held _ => 1
def uptoBulkAll {H : Type} : List (DataW H) → Nat
  | [] => 0
  | d :: r => uptoBulk d + uptoBulkAll r
def uptoBulkEntries {H : Type} : List (Lit × DataW H) → Nat
  | [] => 0
  | x :: r => uptoBulkEntry x + uptoBulkEntries r
def uptoBulkEntry {H : Type} : Lit × DataW H → Nat
  | (.string bytes, d) => bytes.length + uptoBulk d + 1
  | (_, d) => uptoBulk d + 1
 end
def uptoSmall : (H : Type) → List (DataW H) → Bool := fun _ ds => decide (uptoBulkAll ds ≤ 1048576)
def OpenSpec.upto (s : _root_.Go.ChangeSpec) : _root_.Go.OpenSpec := { _root_.Go.OpenSpec.ofChange s with cond := some uptoSmall }

/-- 'fenestralaw14.TabsTell', WHERE WHAT IT READS IS OF BULK AT MOST 1048576: true; the input reads as it did. -/
def tabsTellUptoRow : OpenClaim := { program := "ytkkhcpddpnhemaa", sum := "8e204c2aeb84ef0377dacfd4dff61cd2147699706b5d27c097b1c351a3b8078f", func := "fenestra/fenestralaw14.TabsTell", spec := "tabsTell", unfollowed := true, recurses := true, apart := false, narrowed := true }
def TabsTellUptoSaid : Prop := tabsTellUptoRow.holds Try.pinned (OpenSpec.upto tabsTellSpec)

/-- 'fenestralaw14.TabsTurn', WHERE WHAT IT READS IS OF BULK AT MOST 1048576: true; the input reads as it did. -/
def tabsTurnUptoRow : OpenClaim := { program := "ytkkhcpddpnhemaa", sum := "8e204c2aeb84ef0377dacfd4dff61cd2147699706b5d27c097b1c351a3b8078f", func := "fenestra/fenestralaw14.TabsTurn", spec := "tabsTurn", unfollowed := true, recurses := true, apart := false, narrowed := true }
def TabsTurnUptoSaid : Prop := tabsTurnUptoRow.holds Try.pinned (OpenSpec.upto tabsTurnSpec)

/-- 'fenestralaw14.TabsSteps', WHERE WHAT IT READS IS OF BULK AT MOST 1048576: true; the input reads as it did. -/
def tabsStepsUptoRow : OpenClaim := { program := "ytkkhcpddpnhemaa", sum := "8e204c2aeb84ef0377dacfd4dff61cd2147699706b5d27c097b1c351a3b8078f", func := "fenestra/fenestralaw14.TabsSteps", spec := "tabsSteps", unfollowed := true, recurses := true, apart := false, narrowed := true }
def TabsStepsUptoSaid : Prop := tabsStepsUptoRow.holds Try.pinned (OpenSpec.upto tabsStepsSpec)

/-- 'fenestralaw14.TabsThere', WHERE WHAT IT READS IS OF BULK AT MOST 1048576: true; the input reads as it did. -/
def tabsThereUptoRow : OpenClaim := { program := "ytkkhcpddpnhemaa", sum := "8e204c2aeb84ef0377dacfd4dff61cd2147699706b5d27c097b1c351a3b8078f", func := "fenestra/fenestralaw14.TabsThere", spec := "tabsThere", unfollowed := true, recurses := true, apart := false, narrowed := true }
def TabsThereUptoSaid : Prop := tabsThereUptoRow.holds Try.pinned (OpenSpec.upto tabsThereSpec)

/-- 'fenestralaw14.TabsWide', WHERE WHAT IT READS IS OF BULK AT MOST 1048576: true; the input reads as it did. -/
def tabsWideUptoRow : OpenClaim := { program := "ytkkhcpddpnhemaa", sum := "8e204c2aeb84ef0377dacfd4dff61cd2147699706b5d27c097b1c351a3b8078f", func := "fenestra/fenestralaw14.TabsWide", spec := "tabsWide", unfollowed := true, recurses := true, apart := false, narrowed := true }
def TabsWideUptoSaid : Prop := tabsWideUptoRow.holds Try.pinned (OpenSpec.upto tabsWideSpec)

/-- 'fenestralaw14.TabsMake', WHERE WHAT IT READS IS OF BULK AT MOST 1048576: true; the input reads as it did. -/
def tabsMakeUptoRow : OpenClaim := { program := "ytkkhcpddpnhemaa", sum := "8e204c2aeb84ef0377dacfd4dff61cd2147699706b5d27c097b1c351a3b8078f", func := "fenestra/fenestralaw14.TabsMake", spec := "tabsMake", unfollowed := true, recurses := true, apart := false, narrowed := true }
def TabsMakeUptoSaid : Prop := tabsMakeUptoRow.holds Try.pinned (OpenSpec.upto tabsMakeSpec)

/-- 'fenestralaw14.TabsKnown', WHERE WHAT IT READS IS OF BULK AT MOST 1048576: true; the input reads as it did. -/
def tabsKnownUptoRow : OpenClaim := { program := "ytkkhcpddpnhemaa", sum := "8e204c2aeb84ef0377dacfd4dff61cd2147699706b5d27c097b1c351a3b8078f", func := "fenestra/fenestralaw14.TabsKnown", spec := "tabsKnown", unfollowed := true, recurses := true, apart := false, narrowed := true }
def TabsKnownUptoSaid : Prop := tabsKnownUptoRow.holds Try.pinned (OpenSpec.upto tabsKnownSpec)

end Rows
end Go.Proofs.Ytkkhcpddpnhemaa
