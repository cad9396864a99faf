/-
  DERIVED. GIVEN WITH THE SEED: THE CARDS: each row of YtegpdjiacehkfaaDoorRows.lean that lists a variable, with what it lists TIED to the program's text (the seventh form; the later family's looks); each row that meets fmt, with fmt's text TOLD by the authors' own Lean function (tested against real Go, not proved from fmt's source: count such statements apart). THE CARD IS WHAT COUNTS. Prove the row's statement (the work); the ties are given (YtegpdjiacehkfaaDoorTie.lean); close each card by the builder's one call (the guide's Derived/Test/ToyasCard.lean, 'card_holds'). Laid BY PROGRAM, IN A SANDBOX (cutbox-door.mjs). By AI agents, Wed Nov 11 2026. No macro, syntax, notation, axiom, sorry.
-/
import Derived.Test.YtegpdjiacehkfaaDoorRows
import GoSem.ClaimSeven
namespace Go.Proofs.YtegpdjiacehkfaaDoor
namespace Rows

/-- THE TIED CARD OF 'fenestralaw15.SetsTell'. -/
def setsTellCard : Claim7 := { stood := { row := setsTellRow, standIns := [], harness := (true, "027a53475bb3a405b64788d81699f748a1fc85dd30fb7aab8e8f37da5f1e2d55"), looks := false }, kinds := [], alts := [], laidByText := true, laidKinds := [.data], laidTests := true, laidLooks := .later }
def SetsTellCardSaid : Prop := Claim7.holds Tryd.pinned (.plain (OpenSpec.ofChange setsTellSpec)) setsTellCard

/-- THE TIED CARD OF 'fenestralaw15.SetsTurn'. -/
def setsTurnCard : Claim7 := { stood := { row := setsTurnRow, standIns := [], harness := (true, "027a53475bb3a405b64788d81699f748a1fc85dd30fb7aab8e8f37da5f1e2d55"), looks := false }, kinds := [], alts := [], laidByText := true, laidKinds := [.data], laidTests := true, laidLooks := .later }
def SetsTurnCardSaid : Prop := Claim7.holds Tryd.pinned (.plain (OpenSpec.ofChange setsTurnSpec)) setsTurnCard

/-- THE TIED CARD OF 'fenestralaw15.SetsCodes'. -/
def setsCodesCard : Claim7 := { stood := { row := setsCodesRow, standIns := [], harness := (true, "027a53475bb3a405b64788d81699f748a1fc85dd30fb7aab8e8f37da5f1e2d55"), looks := false }, kinds := [], alts := [], laidByText := true, laidKinds := [.data], laidTests := true, laidLooks := .later }
def SetsCodesCardSaid : Prop := Claim7.holds Tryd.pinned (.plain (OpenSpec.ofChange setsCodesSpec)) setsCodesCard

/-- THE TIED CARD OF 'fenestralaw15.SetsRun'. -/
def setsRunCard : Claim7 := { stood := { row := setsRunRow, standIns := [], harness := (true, "027a53475bb3a405b64788d81699f748a1fc85dd30fb7aab8e8f37da5f1e2d55"), looks := false }, kinds := [], alts := [], laidByText := true, laidKinds := [.data], laidTests := true, laidLooks := .later }
def SetsRunCardSaid : Prop := Claim7.holds Tryd.pinned (.plain (OpenSpec.ofChange setsRunSpec)) setsRunCard

/-- THE TIED CARD OF 'fenestralaw15.SetsOnce'. -/
def setsOnceCard : Claim7 := { stood := { row := setsOnceRow, standIns := [], harness := (true, "027a53475bb3a405b64788d81699f748a1fc85dd30fb7aab8e8f37da5f1e2d55"), looks := false }, kinds := [], alts := [], laidByText := true, laidKinds := [.data], laidTests := true, laidLooks := .later }
def SetsOnceCardSaid : Prop := Claim7.holds Tryd.pinned (.plain (OpenSpec.ofChange setsOnceSpec)) setsOnceCard

/-- THE TIED CARD OF 'fenestralaw15.SetsKnown'. -/
def setsKnownCard : Claim7 := { stood := { row := setsKnownRow, standIns := [], harness := (true, "027a53475bb3a405b64788d81699f748a1fc85dd30fb7aab8e8f37da5f1e2d55"), looks := false }, kinds := [], alts := [], laidByText := true, laidKinds := [.data], laidTests := true, laidLooks := .later }
def SetsKnownCardSaid : Prop := Claim7.holds Tryd.pinned (.plain (OpenSpec.ofChange setsKnownSpec)) setsKnownCard

/-- THE SECOND FORM's CARD OF 'fenestralaw15.SetsTell'. -/
def setsTellUptoCard : Claim7 := { stood := { row := setsTellUptoRow, standIns := [], harness := (true, "027a53475bb3a405b64788d81699f748a1fc85dd30fb7aab8e8f37da5f1e2d55"), looks := false }, kinds := [], alts := [], laidByText := true, laidKinds := [.data], laidTests := true, laidLooks := .later }
def SetsTellUptoCardSaid : Prop := Claim7.holds Tryd.pinned (.plain (OpenSpec.upto setsTellSpec)) setsTellUptoCard

/-- THE SECOND FORM's CARD OF 'fenestralaw15.SetsTurn'. -/
def setsTurnUptoCard : Claim7 := { stood := { row := setsTurnUptoRow, standIns := [], harness := (true, "027a53475bb3a405b64788d81699f748a1fc85dd30fb7aab8e8f37da5f1e2d55"), looks := false }, kinds := [], alts := [], laidByText := true, laidKinds := [.data], laidTests := true, laidLooks := .later }
def SetsTurnUptoCardSaid : Prop := Claim7.holds Tryd.pinned (.plain (OpenSpec.upto setsTurnSpec)) setsTurnUptoCard

/-- THE SECOND FORM's CARD OF 'fenestralaw15.SetsCodes'. -/
def setsCodesUptoCard : Claim7 := { stood := { row := setsCodesUptoRow, standIns := [], harness := (true, "027a53475bb3a405b64788d81699f748a1fc85dd30fb7aab8e8f37da5f1e2d55"), looks := false }, kinds := [], alts := [], laidByText := true, laidKinds := [.data], laidTests := true, laidLooks := .later }
def SetsCodesUptoCardSaid : Prop := Claim7.holds Tryd.pinned (.plain (OpenSpec.upto setsCodesSpec)) setsCodesUptoCard

/-- THE SECOND FORM's CARD OF 'fenestralaw15.SetsRun'. -/
def setsRunUptoCard : Claim7 := { stood := { row := setsRunUptoRow, standIns := [], harness := (true, "027a53475bb3a405b64788d81699f748a1fc85dd30fb7aab8e8f37da5f1e2d55"), looks := false }, kinds := [], alts := [], laidByText := true, laidKinds := [.data], laidTests := true, laidLooks := .later }
def SetsRunUptoCardSaid : Prop := Claim7.holds Tryd.pinned (.plain (OpenSpec.upto setsRunSpec)) setsRunUptoCard

/-- THE SECOND FORM's CARD OF 'fenestralaw15.SetsOnce'. -/
def setsOnceUptoCard : Claim7 := { stood := { row := setsOnceUptoRow, standIns := [], harness := (true, "027a53475bb3a405b64788d81699f748a1fc85dd30fb7aab8e8f37da5f1e2d55"), looks := false }, kinds := [], alts := [], laidByText := true, laidKinds := [.data], laidTests := true, laidLooks := .later }
def SetsOnceUptoCardSaid : Prop := Claim7.holds Tryd.pinned (.plain (OpenSpec.upto setsOnceSpec)) setsOnceUptoCard

/-- THE SECOND FORM's CARD OF 'fenestralaw15.SetsKnown'. -/
def setsKnownUptoCard : Claim7 := { stood := { row := setsKnownUptoRow, standIns := [], harness := (true, "027a53475bb3a405b64788d81699f748a1fc85dd30fb7aab8e8f37da5f1e2d55"), looks := false }, kinds := [], alts := [], laidByText := true, laidKinds := [.data], laidTests := true, laidLooks := .later }
def SetsKnownUptoCardSaid : Prop := Claim7.holds Tryd.pinned (.plain (OpenSpec.upto setsKnownSpec)) setsKnownUptoCard
end Rows
end Go.Proofs.YtegpdjiacehkfaaDoor
