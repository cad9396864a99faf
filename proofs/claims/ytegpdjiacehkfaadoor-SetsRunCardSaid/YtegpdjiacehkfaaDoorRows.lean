/-
  NARROWER THAN 'FOR EVERY INPUT', by the rows' own cells (each row's printed sentence says how): SetsTell: laid · SetsTurn: laid · SetsCodes: laid · SetsRun: laid · SetsOnce: laid · SetsKnown: laid.
  DERIVED. THE GIVEN ROWS OF THIS SEAT. 6 by the template 'for every input the law returns true; each argument reads behind the call as it read before'; 0 by the template 'total and deterministic' (their statements: YtegpdjiacehkfaaDoorTotals.lean).
  GIVEN WITH THE SEED: the statements are not yours to turn. If you find one false, say at which input.
  Laid BY PROGRAM, IN A SANDBOX (cutbox-rows.mjs): the forced cells as the released guide's own fill.sh prints them over the translation 90b2cb0465c6dc25… (all of the seat's roots in one cut). By AI agents, Wed Nov 11 2026. No macro, syntax, notation, axiom, sorry.
-/
import Derived.Test.YtegpdjiacehkfaaDoorChecked
import GoSem.Claim
import GoSem.ClaimJoined
import GoSem.ClaimMapViews
import Derived.JoinedTies
import Derived.KernelRfl
namespace Go.Proofs.YtegpdjiacehkfaaDoor
/- THE CELL 'sum', in the pinned program and in every row, IS THE sha256 OF THE DUMP (.gsa) THAT YtegpdjiacehkfaaDoorProg.lean LOADS. Nothing in Lean hashes anything: it is a label: what it is worth is what the hold of that sum in a sandbox is worth. -/
noncomputable def Tryd.pinned : Pinned := { name := "ytegpdjiacehkfaadoor", sum := "90b2cb0465c6dc25a7caf8aa2ebaeb95a4e980a7928b3940e9f7294dfa7cdfd7", checked := Tryd.checked }
namespace Rows
def none {H : Type} : Left H := { results := [], args := [] }

/- WHAT THE LISTED PACKAGE-LEVEL VARIABLES READ AS WHEN THE CALL BEGINS. Each datum BY PROGRAM (the guide's laid-datum.mjs) off the statement by which the dump's own 'gosem.cut.vars' lays the variable. In a bare row this is a premise. The card (YtegpdjiacehkfaaDoorCards.lean) ties it to the program's text. -/
def laid_fenestra_sets_signs {H : Type} : DataW H := .agg [.lit (.int .i64 32), .lit (.int .i64 9670), .lit (.int .i64 9618), .lit (.int .i64 9225), .lit (.int .i64 9228), .lit (.int .i64 9229), .lit (.int .i64 9226), .lit (.int .i64 176), .lit (.int .i64 177), .lit (.int .i64 9252), .lit (.int .i64 9227), .lit (.int .i64 9496), .lit (.int .i64 9488), .lit (.int .i64 9484), .lit (.int .i64 9492), .lit (.int .i64 9532), .lit (.int .i64 9146), .lit (.int .i64 9147), .lit (.int .i64 9472), .lit (.int .i64 9148), .lit (.int .i64 9149), .lit (.int .i64 9500), .lit (.int .i64 9508), .lit (.int .i64 9524), .lit (.int .i64 9516), .lit (.int .i64 9474), .lit (.int .i64 8804), .lit (.int .i64 8805), .lit (.int .i64 960), .lit (.int .i64 8800), .lit (.int .i64 163), .lit (.int .i64 183)]

/-- 'fenestralaw15.SetsTell': WHATEVER THE INPUT: true; the input reads as it did. -/
def setsTellSpec : ChangeSpec := { name := "setsTell", fn := fun _ => fun
  | [d1, d2, d3] => { results := [.lit (.bool true)], args := [d1, d2, d3] }
  | _ => none }
def setsTellRow : OpenClaim := { program := "ytegpdjiacehkfaadoor", sum := "90b2cb0465c6dc25a7caf8aa2ebaeb95a4e980a7928b3940e9f7294dfa7cdfd7", func := "fenestra/fenestralaw15.SetsTell", spec := "setsTell", unfollowed := true, recurses := true, named := ["fenestra/sets.signs"], apart := false, laid := [("fenestra/sets.signs", laid_fenestra_sets_signs)] }
def SetsTellSaid : Prop := setsTellRow.holds Tryd.pinned (OpenSpec.ofChange setsTellSpec)

/-- ITS FALSE NEIGHBOUR: 'it returns false'. Refute it at one input. -/
def setsTellWrong : ChangeSpec := { name := "setsTell", fn := fun _ => fun
  | [d1, d2, d3] => { results := [.lit (.bool false)], args := [d1, d2, d3] }
  | _ => none }
def SetsTellWrongFalsely : Prop := setsTellRow.holds Tryd.pinned (OpenSpec.ofChange setsTellWrong)

/-- 'fenestralaw15.SetsTurn': WHATEVER THE INPUT: true; the input reads as it did. -/
def setsTurnSpec : ChangeSpec := { name := "setsTurn", fn := fun _ => fun
  | [d1, d2, d3] => { results := [.lit (.bool true)], args := [d1, d2, d3] }
  | _ => none }
def setsTurnRow : OpenClaim := { program := "ytegpdjiacehkfaadoor", sum := "90b2cb0465c6dc25a7caf8aa2ebaeb95a4e980a7928b3940e9f7294dfa7cdfd7", func := "fenestra/fenestralaw15.SetsTurn", spec := "setsTurn", unfollowed := true, recurses := true, named := ["fenestra/sets.signs"], apart := false, laid := [("fenestra/sets.signs", laid_fenestra_sets_signs)] }
def SetsTurnSaid : Prop := setsTurnRow.holds Tryd.pinned (OpenSpec.ofChange setsTurnSpec)

/-- ITS FALSE NEIGHBOUR: 'it returns false'. Refute it at one input. -/
def setsTurnWrong : ChangeSpec := { name := "setsTurn", fn := fun _ => fun
  | [d1, d2, d3] => { results := [.lit (.bool false)], args := [d1, d2, d3] }
  | _ => none }
def SetsTurnWrongFalsely : Prop := setsTurnRow.holds Tryd.pinned (OpenSpec.ofChange setsTurnWrong)

/-- 'fenestralaw15.SetsCodes': WHATEVER THE INPUT: true; the input reads as it did. -/
def setsCodesSpec : ChangeSpec := { name := "setsCodes", fn := fun _ => fun
  | [d] => { results := [.lit (.bool true)], args := [d] }
  | _ => none }
def setsCodesRow : OpenClaim := { program := "ytegpdjiacehkfaadoor", sum := "90b2cb0465c6dc25a7caf8aa2ebaeb95a4e980a7928b3940e9f7294dfa7cdfd7", func := "fenestra/fenestralaw15.SetsCodes", spec := "setsCodes", unfollowed := true, recurses := true, named := ["fenestra/sets.signs"], apart := false, laid := [("fenestra/sets.signs", laid_fenestra_sets_signs)] }
def SetsCodesSaid : Prop := setsCodesRow.holds Tryd.pinned (OpenSpec.ofChange setsCodesSpec)

/-- ITS FALSE NEIGHBOUR: 'it returns false'. Refute it at one input. -/
def setsCodesWrong : ChangeSpec := { name := "setsCodes", fn := fun _ => fun
  | [d] => { results := [.lit (.bool false)], args := [d] }
  | _ => none }
def SetsCodesWrongFalsely : Prop := setsCodesRow.holds Tryd.pinned (OpenSpec.ofChange setsCodesWrong)

/-- 'fenestralaw15.SetsRun': WHATEVER THE INPUT: true; the input reads as it did. -/
def setsRunSpec : ChangeSpec := { name := "setsRun", fn := fun _ => fun
  | [d] => { results := [.lit (.bool true)], args := [d] }
  | _ => none }
def setsRunRow : OpenClaim := { program := "ytegpdjiacehkfaadoor", sum := "90b2cb0465c6dc25a7caf8aa2ebaeb95a4e980a7928b3940e9f7294dfa7cdfd7", func := "fenestra/fenestralaw15.SetsRun", spec := "setsRun", unfollowed := true, recurses := true, named := ["fenestra/sets.signs"], apart := false, laid := [("fenestra/sets.signs", laid_fenestra_sets_signs)] }
def SetsRunSaid : Prop := setsRunRow.holds Tryd.pinned (OpenSpec.ofChange setsRunSpec)

/-- ITS FALSE NEIGHBOUR: 'it returns false'. Refute it at one input. -/
def setsRunWrong : ChangeSpec := { name := "setsRun", fn := fun _ => fun
  | [d] => { results := [.lit (.bool false)], args := [d] }
  | _ => none }
def SetsRunWrongFalsely : Prop := setsRunRow.holds Tryd.pinned (OpenSpec.ofChange setsRunWrong)

/-- 'fenestralaw15.SetsOnce': WHATEVER THE INPUT: true; the input reads as it did. -/
def setsOnceSpec : ChangeSpec := { name := "setsOnce", fn := fun _ => fun
  | [d1, d2, d3] => { results := [.lit (.bool true)], args := [d1, d2, d3] }
  | _ => none }
def setsOnceRow : OpenClaim := { program := "ytegpdjiacehkfaadoor", sum := "90b2cb0465c6dc25a7caf8aa2ebaeb95a4e980a7928b3940e9f7294dfa7cdfd7", func := "fenestra/fenestralaw15.SetsOnce", spec := "setsOnce", unfollowed := true, recurses := true, named := ["fenestra/sets.signs"], apart := false, laid := [("fenestra/sets.signs", laid_fenestra_sets_signs)] }
def SetsOnceSaid : Prop := setsOnceRow.holds Tryd.pinned (OpenSpec.ofChange setsOnceSpec)

/-- ITS FALSE NEIGHBOUR: 'it returns false'. Refute it at one input. -/
def setsOnceWrong : ChangeSpec := { name := "setsOnce", fn := fun _ => fun
  | [d1, d2, d3] => { results := [.lit (.bool false)], args := [d1, d2, d3] }
  | _ => none }
def SetsOnceWrongFalsely : Prop := setsOnceRow.holds Tryd.pinned (OpenSpec.ofChange setsOnceWrong)

/-- 'fenestralaw15.SetsKnown': WHATEVER THE INPUT: true; the input reads as it did. -/
def setsKnownSpec : ChangeSpec := { name := "setsKnown", fn := fun _ => fun
  | [] => { results := [.lit (.bool true)], args := [] }
  | _ => none }
def setsKnownRow : OpenClaim := { program := "ytegpdjiacehkfaadoor", sum := "90b2cb0465c6dc25a7caf8aa2ebaeb95a4e980a7928b3940e9f7294dfa7cdfd7", func := "fenestra/fenestralaw15.SetsKnown", spec := "setsKnown", unfollowed := true, recurses := true, named := ["fenestra/sets.signs"], apart := false, laid := [("fenestra/sets.signs", laid_fenestra_sets_signs)] }
def SetsKnownSaid : Prop := setsKnownRow.holds Tryd.pinned (OpenSpec.ofChange setsKnownSpec)

/-- ITS FALSE NEIGHBOUR: 'it returns false'. Refute it at one input. -/
def setsKnownWrong : ChangeSpec := { name := "setsKnown", fn := fun _ => fun
  | [] => { results := [.lit (.bool false)], args := [] }
  | _ => none }
def SetsKnownWrongFalsely : Prop := setsKnownRow.holds Tryd.pinned (OpenSpec.ofChange setsKnownWrong)

/- THE SECOND FORM. 'bulk': how many values and letters a reading holds, each counted each time it is reached (what is shared counts as often as it is met; a slice's spare places count too). A statement '..UptoSaid' is the law's where the arguments, and the package variables that the reading takes, are together of bulk at most 1048576: NARROWER than '..Said'. Prove '..Said' where nothing that the law and all that it calls make is longer than what came in: it says more and counts as full. Else prove '..UptoSaid'. A law counts once. -/
mutual
def uptoBulk {H : Type} : DataW H → Nat
  | .lit (.string bytes) => bytes.length + 1
  | .lit _ => 1
  | .nil => 1
  | .ptr d => uptoBulk d + 1
  | .slice elems spare => uptoBulkAll elems + uptoBulkAll spare + 1
  | .agg parts => uptoBulkAll parts + 1
  | .iface _ d => uptoBulk d + 1
  | .map entries => uptoBulkEntries entries + 1
  | .held _ => 1
def uptoBulkAll {H : Type} : List (DataW H) → Nat
  | [] => 0
  | d :: r => uptoBulk d + uptoBulkAll r
def uptoBulkEntries {H : Type} : List (Lit × DataW H) → Nat
  | [] => 0
  | x :: r => uptoBulkEntry x + uptoBulkEntries r
def uptoBulkEntry {H : Type} : Lit × DataW H → Nat
  | (.string bytes, d) => bytes.length + uptoBulk d + 1
  | (_, d) => uptoBulk d + 1
 end
def uptoSmall : (H : Type) → List (DataW H) → Bool := fun _ ds => decide (uptoBulkAll ds ≤ 1048576)
def OpenSpec.upto (s : _root_.Go.ChangeSpec) : _root_.Go.OpenSpec := { _root_.Go.OpenSpec.ofChange s with cond := some uptoSmall }

/-- 'fenestralaw15.SetsTell', WHERE WHAT IT READS IS OF BULK AT MOST 1048576: true; the input reads as it did. -/
def setsTellUptoRow : OpenClaim := { program := "ytegpdjiacehkfaadoor", sum := "90b2cb0465c6dc25a7caf8aa2ebaeb95a4e980a7928b3940e9f7294dfa7cdfd7", func := "fenestra/fenestralaw15.SetsTell", spec := "setsTell", unfollowed := true, recurses := true, named := ["fenestra/sets.signs"], apart := false, laid := [("fenestra/sets.signs", laid_fenestra_sets_signs)], narrowed := true }
def SetsTellUptoSaid : Prop := setsTellUptoRow.holds Tryd.pinned (OpenSpec.upto setsTellSpec)

/-- 'fenestralaw15.SetsTurn', WHERE WHAT IT READS IS OF BULK AT MOST 1048576: true; the input reads as it did. -/
def setsTurnUptoRow : OpenClaim := { program := "ytegpdjiacehkfaadoor", sum := "90b2cb0465c6dc25a7caf8aa2ebaeb95a4e980a7928b3940e9f7294dfa7cdfd7", func := "fenestra/fenestralaw15.SetsTurn", spec := "setsTurn", unfollowed := true, recurses := true, named := ["fenestra/sets.signs"], apart := false, laid := [("fenestra/sets.signs", laid_fenestra_sets_signs)], narrowed := true }
def SetsTurnUptoSaid : Prop := setsTurnUptoRow.holds Tryd.pinned (OpenSpec.upto setsTurnSpec)

/-- 'fenestralaw15.SetsCodes', WHERE WHAT IT READS IS OF BULK AT MOST 1048576: true; the input reads as it did. -/
def setsCodesUptoRow : OpenClaim := { program := "ytegpdjiacehkfaadoor", sum := "90b2cb0465c6dc25a7caf8aa2ebaeb95a4e980a7928b3940e9f7294dfa7cdfd7", func := "fenestra/fenestralaw15.SetsCodes", spec := "setsCodes", unfollowed := true, recurses := true, named := ["fenestra/sets.signs"], apart := false, laid := [("fenestra/sets.signs", laid_fenestra_sets_signs)], narrowed := true }
def SetsCodesUptoSaid : Prop := setsCodesUptoRow.holds Tryd.pinned (OpenSpec.upto setsCodesSpec)

/-- 'fenestralaw15.SetsRun', WHERE WHAT IT READS IS OF BULK AT MOST 1048576: true; the input reads as it did. -/
def setsRunUptoRow : OpenClaim := { program := "ytegpdjiacehkfaadoor", sum := "90b2cb0465c6dc25a7caf8aa2ebaeb95a4e980a7928b3940e9f7294dfa7cdfd7", func := "fenestra/fenestralaw15.SetsRun", spec := "setsRun", unfollowed := true, recurses := true, named := ["fenestra/sets.signs"], apart := false, laid := [("fenestra/sets.signs", laid_fenestra_sets_signs)], narrowed := true }
def SetsRunUptoSaid : Prop := setsRunUptoRow.holds Tryd.pinned (OpenSpec.upto setsRunSpec)

/-- 'fenestralaw15.SetsOnce', WHERE WHAT IT READS IS OF BULK AT MOST 1048576: true; the input reads as it did. -/
def setsOnceUptoRow : OpenClaim := { program := "ytegpdjiacehkfaadoor", sum := "90b2cb0465c6dc25a7caf8aa2ebaeb95a4e980a7928b3940e9f7294dfa7cdfd7", func := "fenestra/fenestralaw15.SetsOnce", spec := "setsOnce", unfollowed := true, recurses := true, named := ["fenestra/sets.signs"], apart := false, laid := [("fenestra/sets.signs", laid_fenestra_sets_signs)], narrowed := true }
def SetsOnceUptoSaid : Prop := setsOnceUptoRow.holds Tryd.pinned (OpenSpec.upto setsOnceSpec)

/-- 'fenestralaw15.SetsKnown', WHERE WHAT IT READS IS OF BULK AT MOST 1048576: true; the input reads as it did. -/
def setsKnownUptoRow : OpenClaim := { program := "ytegpdjiacehkfaadoor", sum := "90b2cb0465c6dc25a7caf8aa2ebaeb95a4e980a7928b3940e9f7294dfa7cdfd7", func := "fenestra/fenestralaw15.SetsKnown", spec := "setsKnown", unfollowed := true, recurses := true, named := ["fenestra/sets.signs"], apart := false, laid := [("fenestra/sets.signs", laid_fenestra_sets_signs)], narrowed := true }
def SetsKnownUptoSaid : Prop := setsKnownUptoRow.holds Tryd.pinned (OpenSpec.upto setsKnownSpec)

end Rows
end Go.Proofs.YtegpdjiacehkfaaDoor
