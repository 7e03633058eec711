/-
  DERIVED. GIVEN WITH THE SEED: THE CARDS: each row of YtnjjdojonflckaaGreatDoorRows.lean that lists a variable, with what it lists TIED to the program's text (the seventh form; the later family's looks); each row that meets fmt, with fmt's text TOLD by the authors' own Lean function (tested against real Go, not proved from fmt's source: count such statements apart). THE CARD IS WHAT COUNTS. Prove the row's statement (the work); the ties are given (YtnjjdojonflckaaGreatDoorTie.lean); close each card by the builder's one call (the guide's Derived/Test/ToyasCard.lean, 'card_holds'). Laid BY PROGRAM, IN A SANDBOX (cutbox-door.mjs). By AI agents, Wed Nov 11 2026. No macro, syntax, notation, axiom, sorry.
-/
import Derived.Test.YtnjjdojonflckaaGreatDoorRows
import GoSem.ClaimSeven
namespace Go.Proofs.YtnjjdojonflckaaGreatDoor
namespace Rows

/-- THE TIED CARD OF 'laws.FnIndexTerms'. -/
def fnIndexTermsCard : Claim7 := { stood := { row := fnIndexTermsRow, standIns := [], harness := (true, "1dd9329d749ef49d12fd328c2a814219f8792b9363edf2cf2d355fc22d690408"), looks := true }, kinds := [], alts := [], laidByText := true, laidKinds := [.data, .data, .data, .data, .sentinel, .sentinel, .widerDeep, .pinned], laidTests := true, laidLooks := .later }
def FnIndexTermsCardSaid : Prop := Claim7.holds Tryz.pinned (.plain (OpenSpec.ofChange fnIndexTermsSpec)) fnIndexTermsCard

/-- THE TIED CARD OF 'laws.FnIndexPosts'. -/
def fnIndexPostsCard : Claim7 := { stood := { row := fnIndexPostsRow, standIns := [], harness := (true, "1dd9329d749ef49d12fd328c2a814219f8792b9363edf2cf2d355fc22d690408"), looks := true }, kinds := [], alts := [], laidByText := true, laidKinds := [.data, .data, .data, .data, .sentinel, .sentinel, .widerDeep, .pinned], laidTests := true, laidLooks := .later }
def FnIndexPostsCardSaid : Prop := Claim7.holds Tryz.pinned (.plain (OpenSpec.ofChange fnIndexPostsSpec)) fnIndexPostsCard

/-- THE TIED CARD OF 'laws.FnExactIndexOk'. -/
def fnExactIndexOkCard : Claim7 := { stood := { row := fnExactIndexOkRow, standIns := [], harness := (true, "1dd9329d749ef49d12fd328c2a814219f8792b9363edf2cf2d355fc22d690408"), looks := true }, kinds := [], alts := [], laidByText := true, laidKinds := [.data, .data, .data, .data, .sentinel, .sentinel, .widerDeep, .pinned], laidTests := true, laidLooks := .later }
def FnExactIndexOkCardSaid : Prop := Claim7.holds Tryz.pinned (.plain (OpenSpec.ofChange fnExactIndexOkSpec)) fnExactIndexOkCard

/-- THE TIED CARD OF 'laws.FnExactIndexDoc'. -/
def fnExactIndexDocCard : Claim7 := { stood := { row := fnExactIndexDocRow, standIns := [], harness := (true, "1dd9329d749ef49d12fd328c2a814219f8792b9363edf2cf2d355fc22d690408"), looks := true }, kinds := [], alts := [], laidByText := true, laidKinds := [.data, .data, .data, .data, .sentinel, .sentinel, .widerDeep, .pinned], laidTests := true, laidLooks := .later }
def FnExactIndexDocCardSaid : Prop := Claim7.holds Tryz.pinned (.plain (OpenSpec.ofChange fnExactIndexDocSpec)) fnExactIndexDocCard

/-- THE TIED CARD OF 'laws.FnExactIndexPosts'. -/
def fnExactIndexPostsCard : Claim7 := { stood := { row := fnExactIndexPostsRow, standIns := [], harness := (true, "1dd9329d749ef49d12fd328c2a814219f8792b9363edf2cf2d355fc22d690408"), looks := true }, kinds := [], alts := [], laidByText := true, laidKinds := [.data, .data, .data, .data, .sentinel, .sentinel, .widerDeep, .pinned], laidTests := true, laidLooks := .later }
def FnExactIndexPostsCardSaid : Prop := Claim7.holds Tryz.pinned (.plain (OpenSpec.ofChange fnExactIndexPostsSpec)) fnExactIndexPostsCard

/-- THE TIED CARD OF 'laws.FnExactIndexTerms'. -/
def fnExactIndexTermsCard : Claim7 := { stood := { row := fnExactIndexTermsRow, standIns := [], harness := (true, "1dd9329d749ef49d12fd328c2a814219f8792b9363edf2cf2d355fc22d690408"), looks := true }, kinds := [], alts := [], laidByText := true, laidKinds := [.data, .data, .data, .data, .sentinel, .sentinel, .widerDeep, .pinned], laidTests := true, laidLooks := .later }
def FnExactIndexTermsCardSaid : Prop := Claim7.holds Tryz.pinned (.plain (OpenSpec.ofChange fnExactIndexTermsSpec)) fnExactIndexTermsCard

/-- THE SECOND FORM's CARD OF 'laws.FnIndexTerms'. -/
def fnIndexTermsUptoCard : Claim7 := { stood := { row := fnIndexTermsUptoRow, standIns := [], harness := (true, "1dd9329d749ef49d12fd328c2a814219f8792b9363edf2cf2d355fc22d690408"), looks := true }, kinds := [], alts := [], laidByText := true, laidKinds := [.data, .data, .data, .data, .sentinel, .sentinel, .widerDeep, .pinned], laidTests := true, laidLooks := .later }
def FnIndexTermsUptoCardSaid : Prop := Claim7.holds Tryz.pinned (.plain (OpenSpec.upto fnIndexTermsSpec)) fnIndexTermsUptoCard

/-- THE SECOND FORM's CARD OF 'laws.FnIndexPosts'. -/
def fnIndexPostsUptoCard : Claim7 := { stood := { row := fnIndexPostsUptoRow, standIns := [], harness := (true, "1dd9329d749ef49d12fd328c2a814219f8792b9363edf2cf2d355fc22d690408"), looks := true }, kinds := [], alts := [], laidByText := true, laidKinds := [.data, .data, .data, .data, .sentinel, .sentinel, .widerDeep, .pinned], laidTests := true, laidLooks := .later }
def FnIndexPostsUptoCardSaid : Prop := Claim7.holds Tryz.pinned (.plain (OpenSpec.upto fnIndexPostsSpec)) fnIndexPostsUptoCard

/-- THE SECOND FORM's CARD OF 'laws.FnExactIndexOk'. -/
def fnExactIndexOkUptoCard : Claim7 := { stood := { row := fnExactIndexOkUptoRow, standIns := [], harness := (true, "1dd9329d749ef49d12fd328c2a814219f8792b9363edf2cf2d355fc22d690408"), looks := true }, kinds := [], alts := [], laidByText := true, laidKinds := [.data, .data, .data, .data, .sentinel, .sentinel, .widerDeep, .pinned], laidTests := true, laidLooks := .later }
def FnExactIndexOkUptoCardSaid : Prop := Claim7.holds Tryz.pinned (.plain (OpenSpec.upto fnExactIndexOkSpec)) fnExactIndexOkUptoCard

/-- THE SECOND FORM's CARD OF 'laws.FnExactIndexDoc'. -/
def fnExactIndexDocUptoCard : Claim7 := { stood := { row := fnExactIndexDocUptoRow, standIns := [], harness := (true, "1dd9329d749ef49d12fd328c2a814219f8792b9363edf2cf2d355fc22d690408"), looks := true }, kinds := [], alts := [], laidByText := true, laidKinds := [.data, .data, .data, .data, .sentinel, .sentinel, .widerDeep, .pinned], laidTests := true, laidLooks := .later }
def FnExactIndexDocUptoCardSaid : Prop := Claim7.holds Tryz.pinned (.plain (OpenSpec.upto fnExactIndexDocSpec)) fnExactIndexDocUptoCard

/-- THE SECOND FORM's CARD OF 'laws.FnExactIndexPosts'. -/
def fnExactIndexPostsUptoCard : Claim7 := { stood := { row := fnExactIndexPostsUptoRow, standIns := [], harness := (true, "1dd9329d749ef49d12fd328c2a814219f8792b9363edf2cf2d355fc22d690408"), looks := true }, kinds := [], alts := [], laidByText := true, laidKinds := [.data, .data, .data, .data, .sentinel, .sentinel, .widerDeep, .pinned], laidTests := true, laidLooks := .later }
def FnExactIndexPostsUptoCardSaid : Prop := Claim7.holds Tryz.pinned (.plain (OpenSpec.upto fnExactIndexPostsSpec)) fnExactIndexPostsUptoCard

/-- THE SECOND FORM's CARD OF 'laws.FnExactIndexTerms'. -/
def fnExactIndexTermsUptoCard : Claim7 := { stood := { row := fnExactIndexTermsUptoRow, standIns := [], harness := (true, "1dd9329d749ef49d12fd328c2a814219f8792b9363edf2cf2d355fc22d690408"), looks := true }, kinds := [], alts := [], laidByText := true, laidKinds := [.data, .data, .data, .data, .sentinel, .sentinel, .widerDeep, .pinned], laidTests := true, laidLooks := .later }
def FnExactIndexTermsUptoCardSaid : Prop := Claim7.holds Tryz.pinned (.plain (OpenSpec.upto fnExactIndexTermsSpec)) fnExactIndexTermsUptoCard
end Rows
end Go.Proofs.YtnjjdojonflckaaGreatDoor
