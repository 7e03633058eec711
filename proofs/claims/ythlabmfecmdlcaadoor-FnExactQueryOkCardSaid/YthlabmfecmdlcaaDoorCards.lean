/-
  DERIVED. GIVEN WITH THE SEED: THE CARDS: each row of YthlabmfecmdlcaaDoorRows.lean that lists a variable, with what it lists TIED to the program's text (the seventh form; the later family's looks); each row that meets fmt, with fmt's text TOLD by the authors' own Lean function (tested against real Go, not proved from fmt's source: count such statements apart). THE CARD IS WHAT COUNTS. Prove the row's statement (the work); the ties are given (YthlabmfecmdlcaaDoorTie.lean); close each card by the builder's one call (the guide's Derived/Test/ToyasCard.lean, 'card_holds'). Laid BY PROGRAM, IN A SANDBOX (cutbox-door.mjs). By AI agents, Wed Nov 11 2026. No macro, syntax, notation, axiom, sorry.
-/
import Derived.Test.YthlabmfecmdlcaaDoorRows
import GoSem.ClaimSeven
namespace Go.Proofs.YthlabmfecmdlcaaDoor
namespace Rows

/-- THE TIED CARD OF 'laws.FnExactQueryOk'. -/
def fnExactQueryOkCard : Claim7 := { stood := { row := fnExactQueryOkRow, standIns := [], harness := (true, "969d62abcbef3791f343fb23e43bee67b4170c3163aa9109c03981b8a49029ca"), looks := false }, kinds := [], alts := [], laidByText := true, laidKinds := [.data, .widerDeep, .pinned], laidTests := true, laidLooks := .later }
def FnExactQueryOkCardSaid : Prop := Claim7.holds Tryd.pinned (.plain (OpenSpec.ofChange fnExactQueryOkSpec)) fnExactQueryOkCard

/-- THE SECOND FORM's CARD OF 'laws.FnExactQueryOk'. -/
def fnExactQueryOkUptoCard : Claim7 := { stood := { row := fnExactQueryOkUptoRow, standIns := [], harness := (true, "969d62abcbef3791f343fb23e43bee67b4170c3163aa9109c03981b8a49029ca"), looks := false }, kinds := [], alts := [], laidByText := true, laidKinds := [.data, .widerDeep, .pinned], laidTests := true, laidLooks := .later }
def FnExactQueryOkUptoCardSaid : Prop := Claim7.holds Tryd.pinned (.plain (OpenSpec.upto fnExactQueryOkSpec)) fnExactQueryOkUptoCard
end Rows
end Go.Proofs.YthlabmfecmdlcaaDoor
