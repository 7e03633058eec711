/-
  DERIVED. GIVEN WITH THE SEED: THE CARDS: each row of YtelcdhjdlgedeaaDoorRows.lean that lists a variable, with what it lists TIED to the program's text (the seventh form; the later family's looks); each row that meets fmt, with fmt's text TOLD by the authors' own Lean function (tested against real Go, not proved from fmt's source: count such statements apart). THE CARD IS WHAT COUNTS. Prove the row's statement (the work); the ties are given (YtelcdhjdlgedeaaDoorTie.lean); close each card by the builder's one call (the guide's Derived/Test/ToyasCard.lean, 'card_holds'). Laid BY PROGRAM, IN A SANDBOX (cutbox-door.mjs). By AI agents, Wed Nov 11 2026. No macro, syntax, notation, axiom, sorry.
-/
import Derived.Test.YtelcdhjdlgedeaaDoorRows
import GoSem.ClaimSeven
namespace Go.Proofs.YtelcdhjdlgedeaaDoor
namespace Rows

/-- THE TIED CARD OF 'laws.FnExactSetRead'. -/
def fnExactSetReadCard : Claim7 := { stood := { row := fnExactSetReadRow, standIns := [], harness := (true, "3ce560c3441347db8aaf5d6a0ccd76e86aa021b91e11bad635a0e2103a8a1c21"), looks := true }, kinds := [], alts := [], laidByText := true, laidKinds := [.data, .data, .data, .data, .sentinel, .sentinel, .pinned], laidTests := true, laidLooks := .later }
def FnExactSetReadCardSaid : Prop := Claim7.holds Tryd.pinned (.plain (OpenSpec.ofChange fnExactSetReadSpec)) fnExactSetReadCard

/-- THE TIED CARD OF 'laws.FnSetGaps'. -/
def fnSetGapsCard : Claim7 := { stood := { row := fnSetGapsRow, standIns := [], harness := (true, "3ce560c3441347db8aaf5d6a0ccd76e86aa021b91e11bad635a0e2103a8a1c21"), looks := true }, kinds := [], alts := [], laidByText := true, laidKinds := [.data, .data, .data, .data, .sentinel, .sentinel, .pinned], laidTests := true, laidLooks := .later }
def FnSetGapsCardSaid : Prop := Claim7.holds Tryd.pinned (.plain (OpenSpec.ofChange fnSetGapsSpec)) fnSetGapsCard

/-- THE TIED CARD OF 'laws.FnExactFieldsGet'. -/
def fnExactFieldsGetCard : Claim7 := { stood := { row := fnExactFieldsGetRow, standIns := [], harness := (true, "3ce560c3441347db8aaf5d6a0ccd76e86aa021b91e11bad635a0e2103a8a1c21"), looks := true }, kinds := [], alts := [], laidByText := true, laidKinds := [.data, .data, .data, .data, .sentinel, .sentinel, .pinned], laidTests := true, laidLooks := .later }
def FnExactFieldsGetCardSaid : Prop := Claim7.holds Tryd.pinned (.plain (OpenSpec.ofChange fnExactFieldsGetSpec)) fnExactFieldsGetCard

/-- THE TIED CARD OF 'laws.FnDocOk'. -/
def fnDocOkCard : Claim7 := { stood := { row := fnDocOkRow, standIns := [], harness := (true, "3ce560c3441347db8aaf5d6a0ccd76e86aa021b91e11bad635a0e2103a8a1c21"), looks := true }, kinds := [], alts := [], laidByText := true, laidKinds := [.data, .data, .data, .data, .sentinel, .sentinel, .pinned], laidTests := true, laidLooks := .later }
def FnDocOkCardSaid : Prop := Claim7.holds Tryd.pinned (.plain (OpenSpec.ofChange fnDocOkSpec)) fnDocOkCard

/-- THE TIED CARD OF 'laws.FnFields'. -/
def fnFieldsCard : Claim7 := { stood := { row := fnFieldsRow, standIns := [], harness := (true, "3ce560c3441347db8aaf5d6a0ccd76e86aa021b91e11bad635a0e2103a8a1c21"), looks := true }, kinds := [], alts := [], laidByText := true, laidKinds := [.data, .data, .data, .data, .sentinel, .sentinel, .pinned], laidTests := true, laidLooks := .later }
def FnFieldsCardSaid : Prop := Claim7.holds Tryd.pinned (.plain (OpenSpec.ofChange fnFieldsSpec)) fnFieldsCard

/-- THE TIED CARD OF 'laws.FnExactDocOk'. -/
def fnExactDocOkCard : Claim7 := { stood := { row := fnExactDocOkRow, standIns := [], harness := (true, "3ce560c3441347db8aaf5d6a0ccd76e86aa021b91e11bad635a0e2103a8a1c21"), looks := true }, kinds := [], alts := [], laidByText := true, laidKinds := [.data, .data, .data, .data, .sentinel, .sentinel, .pinned], laidTests := true, laidLooks := .later }
def FnExactDocOkCardSaid : Prop := Claim7.holds Tryd.pinned (.plain (OpenSpec.ofChange fnExactDocOkSpec)) fnExactDocOkCard

/-- THE SECOND FORM's CARD OF 'laws.FnExactSetRead'. -/
def fnExactSetReadUptoCard : Claim7 := { stood := { row := fnExactSetReadUptoRow, standIns := [], harness := (true, "3ce560c3441347db8aaf5d6a0ccd76e86aa021b91e11bad635a0e2103a8a1c21"), looks := true }, kinds := [], alts := [], laidByText := true, laidKinds := [.data, .data, .data, .data, .sentinel, .sentinel, .pinned], laidTests := true, laidLooks := .later }
def FnExactSetReadUptoCardSaid : Prop := Claim7.holds Tryd.pinned (.plain (OpenSpec.upto fnExactSetReadSpec)) fnExactSetReadUptoCard

/-- THE SECOND FORM's CARD OF 'laws.FnSetGaps'. -/
def fnSetGapsUptoCard : Claim7 := { stood := { row := fnSetGapsUptoRow, standIns := [], harness := (true, "3ce560c3441347db8aaf5d6a0ccd76e86aa021b91e11bad635a0e2103a8a1c21"), looks := true }, kinds := [], alts := [], laidByText := true, laidKinds := [.data, .data, .data, .data, .sentinel, .sentinel, .pinned], laidTests := true, laidLooks := .later }
def FnSetGapsUptoCardSaid : Prop := Claim7.holds Tryd.pinned (.plain (OpenSpec.upto fnSetGapsSpec)) fnSetGapsUptoCard

/-- THE SECOND FORM's CARD OF 'laws.FnExactFieldsGet'. -/
def fnExactFieldsGetUptoCard : Claim7 := { stood := { row := fnExactFieldsGetUptoRow, standIns := [], harness := (true, "3ce560c3441347db8aaf5d6a0ccd76e86aa021b91e11bad635a0e2103a8a1c21"), looks := true }, kinds := [], alts := [], laidByText := true, laidKinds := [.data, .data, .data, .data, .sentinel, .sentinel, .pinned], laidTests := true, laidLooks := .later }
def FnExactFieldsGetUptoCardSaid : Prop := Claim7.holds Tryd.pinned (.plain (OpenSpec.upto fnExactFieldsGetSpec)) fnExactFieldsGetUptoCard

/-- THE SECOND FORM's CARD OF 'laws.FnDocOk'. -/
def fnDocOkUptoCard : Claim7 := { stood := { row := fnDocOkUptoRow, standIns := [], harness := (true, "3ce560c3441347db8aaf5d6a0ccd76e86aa021b91e11bad635a0e2103a8a1c21"), looks := true }, kinds := [], alts := [], laidByText := true, laidKinds := [.data, .data, .data, .data, .sentinel, .sentinel, .pinned], laidTests := true, laidLooks := .later }
def FnDocOkUptoCardSaid : Prop := Claim7.holds Tryd.pinned (.plain (OpenSpec.upto fnDocOkSpec)) fnDocOkUptoCard

/-- THE SECOND FORM's CARD OF 'laws.FnFields'. -/
def fnFieldsUptoCard : Claim7 := { stood := { row := fnFieldsUptoRow, standIns := [], harness := (true, "3ce560c3441347db8aaf5d6a0ccd76e86aa021b91e11bad635a0e2103a8a1c21"), looks := true }, kinds := [], alts := [], laidByText := true, laidKinds := [.data, .data, .data, .data, .sentinel, .sentinel, .pinned], laidTests := true, laidLooks := .later }
def FnFieldsUptoCardSaid : Prop := Claim7.holds Tryd.pinned (.plain (OpenSpec.upto fnFieldsSpec)) fnFieldsUptoCard

/-- THE SECOND FORM's CARD OF 'laws.FnExactDocOk'. -/
def fnExactDocOkUptoCard : Claim7 := { stood := { row := fnExactDocOkUptoRow, standIns := [], harness := (true, "3ce560c3441347db8aaf5d6a0ccd76e86aa021b91e11bad635a0e2103a8a1c21"), looks := true }, kinds := [], alts := [], laidByText := true, laidKinds := [.data, .data, .data, .data, .sentinel, .sentinel, .pinned], laidTests := true, laidLooks := .later }
def FnExactDocOkUptoCardSaid : Prop := Claim7.holds Tryd.pinned (.plain (OpenSpec.upto fnExactDocOkSpec)) fnExactDocOkUptoCard
end Rows
end Go.Proofs.YtelcdhjdlgedeaaDoor
