/-
  DERIVED. GIVEN WITH THE SEED: THE CARDS: each row of YtifenfjjekpflaaDoorRows.lean that lists a variable, with what it lists TIED to the program's text (the seventh form; the later family's looks); each row that meets fmt, with fmt's text TOLD by the authors' own Lean function (tested against real Go, not proved from fmt's source: count such statements apart). THE CARD IS WHAT COUNTS. Prove the row's statement (the work); the ties are given (YtifenfjjekpflaaDoorTie.lean); close each card by the builder's one call (the guide's Derived/Test/ToyasCard.lean, 'card_holds'). Laid BY PROGRAM, IN A SANDBOX (cutbox-door.mjs). By AI agents, Wed Nov 11 2026. No macro, syntax, notation, axiom, sorry.
-/
import Derived.Test.YtifenfjjekpflaaDoorRows
import GoSem.ClaimSeven
namespace Go.Proofs.YtifenfjjekpflaaDoor
namespace Rows

/-- THE TIED CARD OF 'laws.FnExactStem'. -/
def fnExactStemCard : Claim7 := { stood := { row := fnExactStemRow, standIns := [], harness := (true, "03f4fe2226e141fe91a1b1f6ddf15c3c6fb825d0f1dadfb90c2be92f8c158de0"), looks := false }, kinds := [], alts := [], laidByText := true, laidKinds := [.widerDeep], laidTests := true, laidLooks := .later }
def FnExactStemCardSaid : Prop := Claim7.holds Tryd.pinned (.plain (OpenSpec.ofChange fnExactStemSpec)) fnExactStemCard

/-- THE TIED CARD OF 'laws.FnExactTermOk'. -/
def fnExactTermOkCard : Claim7 := { stood := { row := fnExactTermOkRow, standIns := [], harness := (true, "03f4fe2226e141fe91a1b1f6ddf15c3c6fb825d0f1dadfb90c2be92f8c158de0"), looks := false }, kinds := [], alts := [], laidByText := true, laidKinds := [.widerDeep], laidTests := true, laidLooks := .later }
def FnExactTermOkCardSaid : Prop := Claim7.holds Tryd.pinned (.plain (OpenSpec.ofChange fnExactTermOkSpec)) fnExactTermOkCard

/-- THE TIED CARD OF 'laws.FnStemMany'. -/
def fnStemManyCard : Claim7 := { stood := { row := fnStemManyRow, standIns := [], harness := (true, "03f4fe2226e141fe91a1b1f6ddf15c3c6fb825d0f1dadfb90c2be92f8c158de0"), looks := false }, kinds := [], alts := [], laidByText := true, laidKinds := [.widerDeep], laidTests := true, laidLooks := .later }
def FnStemManyCardSaid : Prop := Claim7.holds Tryd.pinned (.plain (OpenSpec.ofChange fnStemManySpec)) fnStemManyCard

/-- THE TIED CARD OF 'laws.FnStem'. -/
def fnStemCard : Claim7 := { stood := { row := fnStemRow, standIns := [], harness := (true, "03f4fe2226e141fe91a1b1f6ddf15c3c6fb825d0f1dadfb90c2be92f8c158de0"), looks := false }, kinds := [], alts := [], laidByText := true, laidKinds := [.widerDeep], laidTests := true, laidLooks := .later }
def FnStemCardSaid : Prop := Claim7.holds Tryd.pinned (.plain (OpenSpec.ofChange fnStemSpec)) fnStemCard

/-- THE TIED CARD OF 'laws.FnExactTerms'. -/
def fnExactTermsCard : Claim7 := { stood := { row := fnExactTermsRow, standIns := [], harness := (true, "03f4fe2226e141fe91a1b1f6ddf15c3c6fb825d0f1dadfb90c2be92f8c158de0"), looks := false }, kinds := [], alts := [], laidByText := true, laidKinds := [.widerDeep], laidTests := true, laidLooks := .later }
def FnExactTermsCardSaid : Prop := Claim7.holds Tryd.pinned (.plain (OpenSpec.ofChange fnExactTermsSpec)) fnExactTermsCard

/-- THE TIED CARD OF 'laws.FnTerms'. -/
def fnTermsCard : Claim7 := { stood := { row := fnTermsRow, standIns := [], harness := (true, "03f4fe2226e141fe91a1b1f6ddf15c3c6fb825d0f1dadfb90c2be92f8c158de0"), looks := false }, kinds := [], alts := [], laidByText := true, laidKinds := [.widerDeep], laidTests := true, laidLooks := .later }
def FnTermsCardSaid : Prop := Claim7.holds Tryd.pinned (.plain (OpenSpec.ofChange fnTermsSpec)) fnTermsCard

/-- THE TIED CARD OF 'laws.FnWordsTwo'. -/
def fnWordsTwoCard : Claim7 := { stood := { row := fnWordsTwoRow, standIns := [], harness := (true, "03f4fe2226e141fe91a1b1f6ddf15c3c6fb825d0f1dadfb90c2be92f8c158de0"), looks := false }, kinds := [], alts := [], laidByText := true, laidKinds := [.widerDeep], laidTests := true, laidLooks := .later }
def FnWordsTwoCardSaid : Prop := Claim7.holds Tryd.pinned (.plain (OpenSpec.ofChange fnWordsTwoSpec)) fnWordsTwoCard

/-- THE SECOND FORM's CARD OF 'laws.FnExactStem'. -/
def fnExactStemUptoCard : Claim7 := { stood := { row := fnExactStemUptoRow, standIns := [], harness := (true, "03f4fe2226e141fe91a1b1f6ddf15c3c6fb825d0f1dadfb90c2be92f8c158de0"), looks := false }, kinds := [], alts := [], laidByText := true, laidKinds := [.widerDeep], laidTests := true, laidLooks := .later }
def FnExactStemUptoCardSaid : Prop := Claim7.holds Tryd.pinned (.plain (OpenSpec.upto fnExactStemSpec)) fnExactStemUptoCard

/-- THE SECOND FORM's CARD OF 'laws.FnExactTermOk'. -/
def fnExactTermOkUptoCard : Claim7 := { stood := { row := fnExactTermOkUptoRow, standIns := [], harness := (true, "03f4fe2226e141fe91a1b1f6ddf15c3c6fb825d0f1dadfb90c2be92f8c158de0"), looks := false }, kinds := [], alts := [], laidByText := true, laidKinds := [.widerDeep], laidTests := true, laidLooks := .later }
def FnExactTermOkUptoCardSaid : Prop := Claim7.holds Tryd.pinned (.plain (OpenSpec.upto fnExactTermOkSpec)) fnExactTermOkUptoCard

/-- THE SECOND FORM's CARD OF 'laws.FnStemMany'. -/
def fnStemManyUptoCard : Claim7 := { stood := { row := fnStemManyUptoRow, standIns := [], harness := (true, "03f4fe2226e141fe91a1b1f6ddf15c3c6fb825d0f1dadfb90c2be92f8c158de0"), looks := false }, kinds := [], alts := [], laidByText := true, laidKinds := [.widerDeep], laidTests := true, laidLooks := .later }
def FnStemManyUptoCardSaid : Prop := Claim7.holds Tryd.pinned (.plain (OpenSpec.upto fnStemManySpec)) fnStemManyUptoCard

/-- THE SECOND FORM's CARD OF 'laws.FnStem'. -/
def fnStemUptoCard : Claim7 := { stood := { row := fnStemUptoRow, standIns := [], harness := (true, "03f4fe2226e141fe91a1b1f6ddf15c3c6fb825d0f1dadfb90c2be92f8c158de0"), looks := false }, kinds := [], alts := [], laidByText := true, laidKinds := [.widerDeep], laidTests := true, laidLooks := .later }
def FnStemUptoCardSaid : Prop := Claim7.holds Tryd.pinned (.plain (OpenSpec.upto fnStemSpec)) fnStemUptoCard

/-- THE SECOND FORM's CARD OF 'laws.FnExactTerms'. -/
def fnExactTermsUptoCard : Claim7 := { stood := { row := fnExactTermsUptoRow, standIns := [], harness := (true, "03f4fe2226e141fe91a1b1f6ddf15c3c6fb825d0f1dadfb90c2be92f8c158de0"), looks := false }, kinds := [], alts := [], laidByText := true, laidKinds := [.widerDeep], laidTests := true, laidLooks := .later }
def FnExactTermsUptoCardSaid : Prop := Claim7.holds Tryd.pinned (.plain (OpenSpec.upto fnExactTermsSpec)) fnExactTermsUptoCard

/-- THE SECOND FORM's CARD OF 'laws.FnTerms'. -/
def fnTermsUptoCard : Claim7 := { stood := { row := fnTermsUptoRow, standIns := [], harness := (true, "03f4fe2226e141fe91a1b1f6ddf15c3c6fb825d0f1dadfb90c2be92f8c158de0"), looks := false }, kinds := [], alts := [], laidByText := true, laidKinds := [.widerDeep], laidTests := true, laidLooks := .later }
def FnTermsUptoCardSaid : Prop := Claim7.holds Tryd.pinned (.plain (OpenSpec.upto fnTermsSpec)) fnTermsUptoCard

/-- THE SECOND FORM's CARD OF 'laws.FnWordsTwo'. -/
def fnWordsTwoUptoCard : Claim7 := { stood := { row := fnWordsTwoUptoRow, standIns := [], harness := (true, "03f4fe2226e141fe91a1b1f6ddf15c3c6fb825d0f1dadfb90c2be92f8c158de0"), looks := false }, kinds := [], alts := [], laidByText := true, laidKinds := [.widerDeep], laidTests := true, laidLooks := .later }
def FnWordsTwoUptoCardSaid : Prop := Claim7.holds Tryd.pinned (.plain (OpenSpec.upto fnWordsTwoSpec)) fnWordsTwoUptoCard
end Rows
end Go.Proofs.YtifenfjjekpflaaDoor
