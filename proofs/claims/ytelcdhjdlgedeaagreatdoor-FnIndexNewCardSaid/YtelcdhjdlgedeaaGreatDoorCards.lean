/-
  DERIVED. GIVEN WITH THE SEED: THE CARDS: each row of YtelcdhjdlgedeaaGreatDoorRows.lean that lists a variable, with what it lists TIED to the program's text (the seventh form; the later family's looks); each row that meets fmt, with fmt's text TOLD by the authors' own Lean function (tested against real Go, not proved from fmt's source: count such statements apart). THE CARD IS WHAT COUNTS. Prove the row's statement (the work); the ties are given (YtelcdhjdlgedeaaGreatDoorTie.lean); close each card by the builder's one call (the guide's Derived/Test/ToyasCard.lean, 'card_holds'). Laid BY PROGRAM, IN A SANDBOX (cutbox-door.mjs). By AI agents, Wed Nov 11 2026. No macro, syntax, notation, axiom, sorry.
-/
import Derived.Test.YtelcdhjdlgedeaaGreatDoorRows
import GoSem.ClaimSeven
namespace Go.Proofs.YtelcdhjdlgedeaaGreatDoor
namespace Rows

/-- THE TIED CARD OF 'laws.FnIndexNew'. -/
def fnIndexNewCard : Claim7 := { stood := { row := fnIndexNewRow, standIns := [], harness := (true, "78066e7692db81647fafdbcb28504597a2c19a7948a0d84278bc228febefbc99"), looks := true }, kinds := [], alts := [], laidByText := true, laidKinds := [.data, .data, .data, .data, .sentinel, .sentinel, .widerDeep, .pinned], laidTests := true, laidLooks := .later }
def FnIndexNewCardSaid : Prop := Claim7.holds Tryz.pinned (.plain (OpenSpec.ofChange fnIndexNewSpec)) fnIndexNewCard

/-- THE TIED CARD OF 'laws.FnExactDocTags'. -/
def fnExactDocTagsCard : Claim7 := { stood := { row := fnExactDocTagsRow, standIns := [], harness := (true, "78066e7692db81647fafdbcb28504597a2c19a7948a0d84278bc228febefbc99"), looks := true }, kinds := [], alts := [], laidByText := true, laidKinds := [.data, .data, .data, .data, .sentinel, .sentinel, .pinned], laidTests := true, laidLooks := .later }
def FnExactDocTagsCardSaid : Prop := Claim7.holds Tryz.pinned (.plain (OpenSpec.ofChange fnExactDocTagsSpec)) fnExactDocTagsCard

/-- THE SECOND FORM's CARD OF 'laws.FnIndexNew'. -/
def fnIndexNewUptoCard : Claim7 := { stood := { row := fnIndexNewUptoRow, standIns := [], harness := (true, "78066e7692db81647fafdbcb28504597a2c19a7948a0d84278bc228febefbc99"), looks := true }, kinds := [], alts := [], laidByText := true, laidKinds := [.data, .data, .data, .data, .sentinel, .sentinel, .widerDeep, .pinned], laidTests := true, laidLooks := .later }
def FnIndexNewUptoCardSaid : Prop := Claim7.holds Tryz.pinned (.plain (OpenSpec.upto fnIndexNewSpec)) fnIndexNewUptoCard

/-- THE SECOND FORM's CARD OF 'laws.FnExactDocTags'. -/
def fnExactDocTagsUptoCard : Claim7 := { stood := { row := fnExactDocTagsUptoRow, standIns := [], harness := (true, "78066e7692db81647fafdbcb28504597a2c19a7948a0d84278bc228febefbc99"), looks := true }, kinds := [], alts := [], laidByText := true, laidKinds := [.data, .data, .data, .data, .sentinel, .sentinel, .pinned], laidTests := true, laidLooks := .later }
def FnExactDocTagsUptoCardSaid : Prop := Claim7.holds Tryz.pinned (.plain (OpenSpec.upto fnExactDocTagsSpec)) fnExactDocTagsUptoCard
end Rows
end Go.Proofs.YtelcdhjdlgedeaaGreatDoor
