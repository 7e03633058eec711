/-
  DERIVED. GIVEN WITH THE SEED: THE CARDS: each row of YtglcgkbecfmegaaDoorRows.lean that lists a variable, with what it lists TIED to the program's text (the seventh form; the later family's looks); each row that meets fmt, with fmt's text TOLD by the authors' own Lean function (tested against real Go, not proved from fmt's source: count such statements apart). THE CARD IS WHAT COUNTS. Prove the row's statement (the work); the ties are given (YtglcgkbecfmegaaDoorTie.lean); close each card by the builder's one call (the guide's Derived/Test/ToyasCard.lean, 'card_holds'). Laid BY PROGRAM, IN A SANDBOX (cutbox-door.mjs). By AI agents, Wed Nov 11 2026. No macro, syntax, notation, axiom, sorry.
-/
import Derived.Test.YtglcgkbecfmegaaDoorRows
import GoSem.ClaimSeven
namespace Go.Proofs.YtglcgkbecfmegaaDoor
namespace Rows

/-- THE TIED CARD OF 'laws.FnExactSetGaps'. -/
def fnExactSetGapsCard : Claim7 := { stood := { row := fnExactSetGapsRow, standIns := [], harness := (true, "eb306b3f3e23a9b239de98be445567c5fb9e46e2b22cc035ffa77255c7962405"), looks := false }, kinds := [], alts := [], laidByText := true, laidKinds := [.data, .data, .data], laidTests := true, laidLooks := .later }
def FnExactSetGapsCardSaid : Prop := Claim7.holds Tryd.pinned (.plain (OpenSpec.ofChange fnExactSetGapsSpec)) fnExactSetGapsCard

/-- THE TIED CARD OF 'laws.FnFieldsMore'. -/
def fnFieldsMoreCard : Claim7 := { stood := { row := fnFieldsMoreRow, standIns := [], harness := (true, "eb306b3f3e23a9b239de98be445567c5fb9e46e2b22cc035ffa77255c7962405"), looks := false }, kinds := [], alts := [], laidByText := true, laidKinds := [.data, .data, .data], laidTests := true, laidLooks := .later }
def FnFieldsMoreCardSaid : Prop := Claim7.holds Tryd.pinned (.plain (OpenSpec.ofChange fnFieldsMoreSpec)) fnFieldsMoreCard

/-- THE TIED CARD OF 'laws.FnExactDocGet'. -/
def fnExactDocGetCard : Claim7 := { stood := { row := fnExactDocGetRow, standIns := [], harness := (true, "eb306b3f3e23a9b239de98be445567c5fb9e46e2b22cc035ffa77255c7962405"), looks := false }, kinds := [], alts := [], laidByText := true, laidKinds := [.data, .pinned], laidTests := true, laidLooks := .later }
def FnExactDocGetCardSaid : Prop := Claim7.holds Tryd.pinned (.plain (OpenSpec.ofChange fnExactDocGetSpec)) fnExactDocGetCard

/-- THE TIED CARD OF 'laws.FnExactFieldsPut'. -/
def fnExactFieldsPutCard : Claim7 := { stood := { row := fnExactFieldsPutRow, standIns := [], harness := (true, "eb306b3f3e23a9b239de98be445567c5fb9e46e2b22cc035ffa77255c7962405"), looks := false }, kinds := [], alts := [], laidByText := true, laidKinds := [.data, .data, .data], laidTests := true, laidLooks := .later }
def FnExactFieldsPutCardSaid : Prop := Claim7.holds Tryd.pinned (.plain (OpenSpec.ofChange fnExactFieldsPutSpec)) fnExactFieldsPutCard

/-- THE TIED CARD OF 'laws.FnDoc'. -/
def fnDocCard : Claim7 := { stood := { row := fnDocRow, standIns := [], harness := (true, "eb306b3f3e23a9b239de98be445567c5fb9e46e2b22cc035ffa77255c7962405"), looks := false }, kinds := [], alts := [], laidByText := true, laidKinds := [.data, .pinned], laidTests := true, laidLooks := .later }
def FnDocCardSaid : Prop := Claim7.holds Tryd.pinned (.plain (OpenSpec.ofChange fnDocSpec)) fnDocCard

/-- THE TIED CARD OF 'laws.FnExactQueryOk'. -/
def fnExactQueryOkCard : Claim7 := { stood := { row := fnExactQueryOkRow, standIns := [], harness := (true, "eb306b3f3e23a9b239de98be445567c5fb9e46e2b22cc035ffa77255c7962405"), looks := false }, kinds := [], alts := [], laidByText := true, laidKinds := [.data, .widerDeep, .pinned], laidTests := true, laidLooks := .later }
def FnExactQueryOkCardSaid : Prop := Claim7.holds Tryd.pinned (.plain (OpenSpec.ofChange fnExactQueryOkSpec)) fnExactQueryOkCard

/-- THE SECOND FORM's CARD OF 'laws.FnExactSetGaps'. -/
def fnExactSetGapsUptoCard : Claim7 := { stood := { row := fnExactSetGapsUptoRow, standIns := [], harness := (true, "eb306b3f3e23a9b239de98be445567c5fb9e46e2b22cc035ffa77255c7962405"), looks := false }, kinds := [], alts := [], laidByText := true, laidKinds := [.data, .data, .data], laidTests := true, laidLooks := .later }
def FnExactSetGapsUptoCardSaid : Prop := Claim7.holds Tryd.pinned (.plain (OpenSpec.upto fnExactSetGapsSpec)) fnExactSetGapsUptoCard

/-- THE SECOND FORM's CARD OF 'laws.FnFieldsMore'. -/
def fnFieldsMoreUptoCard : Claim7 := { stood := { row := fnFieldsMoreUptoRow, standIns := [], harness := (true, "eb306b3f3e23a9b239de98be445567c5fb9e46e2b22cc035ffa77255c7962405"), looks := false }, kinds := [], alts := [], laidByText := true, laidKinds := [.data, .data, .data], laidTests := true, laidLooks := .later }
def FnFieldsMoreUptoCardSaid : Prop := Claim7.holds Tryd.pinned (.plain (OpenSpec.upto fnFieldsMoreSpec)) fnFieldsMoreUptoCard

/-- THE SECOND FORM's CARD OF 'laws.FnExactDocGet'. -/
def fnExactDocGetUptoCard : Claim7 := { stood := { row := fnExactDocGetUptoRow, standIns := [], harness := (true, "eb306b3f3e23a9b239de98be445567c5fb9e46e2b22cc035ffa77255c7962405"), looks := false }, kinds := [], alts := [], laidByText := true, laidKinds := [.data, .pinned], laidTests := true, laidLooks := .later }
def FnExactDocGetUptoCardSaid : Prop := Claim7.holds Tryd.pinned (.plain (OpenSpec.upto fnExactDocGetSpec)) fnExactDocGetUptoCard

/-- THE SECOND FORM's CARD OF 'laws.FnExactFieldsPut'. -/
def fnExactFieldsPutUptoCard : Claim7 := { stood := { row := fnExactFieldsPutUptoRow, standIns := [], harness := (true, "eb306b3f3e23a9b239de98be445567c5fb9e46e2b22cc035ffa77255c7962405"), looks := false }, kinds := [], alts := [], laidByText := true, laidKinds := [.data, .data, .data], laidTests := true, laidLooks := .later }
def FnExactFieldsPutUptoCardSaid : Prop := Claim7.holds Tryd.pinned (.plain (OpenSpec.upto fnExactFieldsPutSpec)) fnExactFieldsPutUptoCard

/-- THE SECOND FORM's CARD OF 'laws.FnDoc'. -/
def fnDocUptoCard : Claim7 := { stood := { row := fnDocUptoRow, standIns := [], harness := (true, "eb306b3f3e23a9b239de98be445567c5fb9e46e2b22cc035ffa77255c7962405"), looks := false }, kinds := [], alts := [], laidByText := true, laidKinds := [.data, .pinned], laidTests := true, laidLooks := .later }
def FnDocUptoCardSaid : Prop := Claim7.holds Tryd.pinned (.plain (OpenSpec.upto fnDocSpec)) fnDocUptoCard

/-- THE SECOND FORM's CARD OF 'laws.FnExactQueryOk'. -/
def fnExactQueryOkUptoCard : Claim7 := { stood := { row := fnExactQueryOkUptoRow, standIns := [], harness := (true, "eb306b3f3e23a9b239de98be445567c5fb9e46e2b22cc035ffa77255c7962405"), looks := false }, kinds := [], alts := [], laidByText := true, laidKinds := [.data, .widerDeep, .pinned], laidTests := true, laidLooks := .later }
def FnExactQueryOkUptoCardSaid : Prop := Claim7.holds Tryd.pinned (.plain (OpenSpec.upto fnExactQueryOkSpec)) fnExactQueryOkUptoCard
end Rows
end Go.Proofs.YtglcgkbecfmegaaDoor
