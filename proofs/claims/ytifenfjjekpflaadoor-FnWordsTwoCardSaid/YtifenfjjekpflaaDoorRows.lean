/-
  NARROWER THAN 'FOR EVERY INPUT', by the rows' own cells (each row's printed sentence says how): FnExactStem: laid · FnExactTermOk: laid · FnStemMany: laid · FnStem: laid · FnExactTerms: laid · FnTerms: laid · FnWordsTwo: laid.
  DERIVED. THE GIVEN ROWS OF THIS SEAT. 7 by the template 'for every input the law returns true; each argument reads behind the call as it read before'; 0 by the template 'total and deterministic' (their statements: YtifenfjjekpflaaDoorTotals.lean).
  GIVEN WITH THE SEED: the statements are not yours to turn. If you find one false, say at which input.
  Laid BY PROGRAM, IN A SANDBOX (cutbox-rows.mjs): the forced cells as the released guide's own fill.sh prints them over the translation 14336cff69aff644… (all of the seat's roots in one cut). By AI agents, Wed Nov 11 2026. No macro, syntax, notation, axiom, sorry.
-/
import Derived.Test.YtifenfjjekpflaaDoorChecked
import GoSem.Claim
import GoSem.ClaimJoined
import GoSem.ClaimMapViews
import Derived.JoinedTies
import Derived.KernelRfl
namespace Go.Proofs.YtifenfjjekpflaaDoor
/- THE CELL 'sum', in the pinned program and in every row, IS THE sha256 OF THE DUMP (.gsa) THAT YtifenfjjekpflaaDoorProg.lean LOADS. Nothing in Lean hashes anything: it is a label: what it is worth is what the hold of that sum in a sandbox is worth. -/
noncomputable def Tryd.pinned : Pinned := { name := "ytifenfjjekpflaadoor", sum := "14336cff69aff644adba327612c20eca76c1b27f50a4a978e269f5ed2878f740", checked := Tryd.checked }
namespace Rows
def none {H : Type} : Left H := { results := [], args := [] }

/- WHAT THE LISTED PACKAGE-LEVEL VARIABLES READ AS WHEN THE CALL BEGINS. Each datum BY PROGRAM (the guide's laid-datum.mjs) off the statement by which the dump's own 'gosem.cut.vars' lays the variable. In a bare row this is a premise. The card (YtifenfjjekpflaaDoorCards.lean) ties it to the program's text. -/
def laid_loop_example_spandrel_impl_stops {H : Type} : DataW H := .slice [.lit (.string [97]), .lit (.string [97, 110]), .lit (.string [97, 110, 100]), .lit (.string [111, 102]), .lit (.string [116, 104, 101]), .lit (.string [116, 111])] []

/-- 'laws.FnExactStem': WHATEVER THE INPUT: true; the input reads as it did. -/
def fnExactStemSpec : ChangeSpec := { name := "fnExactStem", vars := ["loop.example/spandrel/impl.stops"], fn := fun _ => fun
  | [d, g1] => { results := [.lit (.bool true)], args := [d], vars := [g1] }
  | _ => none }
def fnExactStemRow : OpenClaim := { program := "ytifenfjjekpflaadoor", sum := "14336cff69aff644adba327612c20eca76c1b27f50a4a978e269f5ed2878f740", func := "loop.example/spandrel/laws.FnExactStem", spec := "fnExactStem", named := ["loop.example/spandrel/impl.stops"], apart := false, laid := [("loop.example/spandrel/impl.stops", laid_loop_example_spandrel_impl_stops)] }
def FnExactStemSaid : Prop := fnExactStemRow.holds Tryd.pinned (OpenSpec.ofChange fnExactStemSpec)

/-- ITS FALSE NEIGHBOUR: 'it returns false'. Refute it at one input. -/
def fnExactStemWrong : ChangeSpec := { name := "fnExactStem", vars := ["loop.example/spandrel/impl.stops"], fn := fun _ => fun
  | [d, g1] => { results := [.lit (.bool false)], args := [d], vars := [g1] }
  | _ => none }
def FnExactStemWrongFalsely : Prop := fnExactStemRow.holds Tryd.pinned (OpenSpec.ofChange fnExactStemWrong)

/-- 'laws.FnExactTermOk': WHATEVER THE INPUT: true; the input reads as it did. -/
def fnExactTermOkSpec : ChangeSpec := { name := "fnExactTermOk", vars := ["loop.example/spandrel/impl.stops"], fn := fun _ => fun
  | [d, g1] => { results := [.lit (.bool true)], args := [d], vars := [g1] }
  | _ => none }
def fnExactTermOkRow : OpenClaim := { program := "ytifenfjjekpflaadoor", sum := "14336cff69aff644adba327612c20eca76c1b27f50a4a978e269f5ed2878f740", func := "loop.example/spandrel/laws.FnExactTermOk", spec := "fnExactTermOk", named := ["loop.example/spandrel/impl.stops"], apart := false, laid := [("loop.example/spandrel/impl.stops", laid_loop_example_spandrel_impl_stops)] }
def FnExactTermOkSaid : Prop := fnExactTermOkRow.holds Tryd.pinned (OpenSpec.ofChange fnExactTermOkSpec)

/-- ITS FALSE NEIGHBOUR: 'it returns false'. Refute it at one input. -/
def fnExactTermOkWrong : ChangeSpec := { name := "fnExactTermOk", vars := ["loop.example/spandrel/impl.stops"], fn := fun _ => fun
  | [d, g1] => { results := [.lit (.bool false)], args := [d], vars := [g1] }
  | _ => none }
def FnExactTermOkWrongFalsely : Prop := fnExactTermOkRow.holds Tryd.pinned (OpenSpec.ofChange fnExactTermOkWrong)

/-- 'laws.FnStemMany': WHATEVER THE INPUT: true; the input reads as it did. -/
def fnStemManySpec : ChangeSpec := { name := "fnStemMany", vars := ["loop.example/spandrel/impl.stops"], fn := fun _ => fun
  | [d, g1] => { results := [.lit (.bool true)], args := [d], vars := [g1] }
  | _ => none }
def fnStemManyRow : OpenClaim := { program := "ytifenfjjekpflaadoor", sum := "14336cff69aff644adba327612c20eca76c1b27f50a4a978e269f5ed2878f740", func := "loop.example/spandrel/laws.FnStemMany", spec := "fnStemMany", named := ["loop.example/spandrel/impl.stops"], apart := false, laid := [("loop.example/spandrel/impl.stops", laid_loop_example_spandrel_impl_stops)] }
def FnStemManySaid : Prop := fnStemManyRow.holds Tryd.pinned (OpenSpec.ofChange fnStemManySpec)

/-- ITS FALSE NEIGHBOUR: 'it returns false'. Refute it at one input. -/
def fnStemManyWrong : ChangeSpec := { name := "fnStemMany", vars := ["loop.example/spandrel/impl.stops"], fn := fun _ => fun
  | [d, g1] => { results := [.lit (.bool false)], args := [d], vars := [g1] }
  | _ => none }
def FnStemManyWrongFalsely : Prop := fnStemManyRow.holds Tryd.pinned (OpenSpec.ofChange fnStemManyWrong)

/-- 'laws.FnStem': WHATEVER THE INPUT: true; the input reads as it did. -/
def fnStemSpec : ChangeSpec := { name := "fnStem", vars := ["loop.example/spandrel/impl.stops"], fn := fun _ => fun
  | [d, g1] => { results := [.lit (.bool true)], args := [d], vars := [g1] }
  | _ => none }
def fnStemRow : OpenClaim := { program := "ytifenfjjekpflaadoor", sum := "14336cff69aff644adba327612c20eca76c1b27f50a4a978e269f5ed2878f740", func := "loop.example/spandrel/laws.FnStem", spec := "fnStem", named := ["loop.example/spandrel/impl.stops"], apart := false, laid := [("loop.example/spandrel/impl.stops", laid_loop_example_spandrel_impl_stops)] }
def FnStemSaid : Prop := fnStemRow.holds Tryd.pinned (OpenSpec.ofChange fnStemSpec)

/-- ITS FALSE NEIGHBOUR: 'it returns false'. Refute it at one input. -/
def fnStemWrong : ChangeSpec := { name := "fnStem", vars := ["loop.example/spandrel/impl.stops"], fn := fun _ => fun
  | [d, g1] => { results := [.lit (.bool false)], args := [d], vars := [g1] }
  | _ => none }
def FnStemWrongFalsely : Prop := fnStemRow.holds Tryd.pinned (OpenSpec.ofChange fnStemWrong)

/-- 'laws.FnExactTerms': WHATEVER THE INPUT: true; the input reads as it did. -/
def fnExactTermsSpec : ChangeSpec := { name := "fnExactTerms", vars := ["loop.example/spandrel/impl.stops"], fn := fun _ => fun
  | [d, g1] => { results := [.lit (.bool true)], args := [d], vars := [g1] }
  | _ => none }
def fnExactTermsRow : OpenClaim := { program := "ytifenfjjekpflaadoor", sum := "14336cff69aff644adba327612c20eca76c1b27f50a4a978e269f5ed2878f740", func := "loop.example/spandrel/laws.FnExactTerms", spec := "fnExactTerms", named := ["loop.example/spandrel/impl.stops"], apart := false, laid := [("loop.example/spandrel/impl.stops", laid_loop_example_spandrel_impl_stops)] }
def FnExactTermsSaid : Prop := fnExactTermsRow.holds Tryd.pinned (OpenSpec.ofChange fnExactTermsSpec)

/-- ITS FALSE NEIGHBOUR: 'it returns false'. Refute it at one input. -/
def fnExactTermsWrong : ChangeSpec := { name := "fnExactTerms", vars := ["loop.example/spandrel/impl.stops"], fn := fun _ => fun
  | [d, g1] => { results := [.lit (.bool false)], args := [d], vars := [g1] }
  | _ => none }
def FnExactTermsWrongFalsely : Prop := fnExactTermsRow.holds Tryd.pinned (OpenSpec.ofChange fnExactTermsWrong)

/-- 'laws.FnTerms': WHATEVER THE INPUT: true; the input reads as it did. -/
def fnTermsSpec : ChangeSpec := { name := "fnTerms", vars := ["loop.example/spandrel/impl.stops"], fn := fun _ => fun
  | [d, g1] => { results := [.lit (.bool true)], args := [d], vars := [g1] }
  | _ => none }
def fnTermsRow : OpenClaim := { program := "ytifenfjjekpflaadoor", sum := "14336cff69aff644adba327612c20eca76c1b27f50a4a978e269f5ed2878f740", func := "loop.example/spandrel/laws.FnTerms", spec := "fnTerms", named := ["loop.example/spandrel/impl.stops"], apart := false, laid := [("loop.example/spandrel/impl.stops", laid_loop_example_spandrel_impl_stops)] }
def FnTermsSaid : Prop := fnTermsRow.holds Tryd.pinned (OpenSpec.ofChange fnTermsSpec)

/-- ITS FALSE NEIGHBOUR: 'it returns false'. Refute it at one input. -/
def fnTermsWrong : ChangeSpec := { name := "fnTerms", vars := ["loop.example/spandrel/impl.stops"], fn := fun _ => fun
  | [d, g1] => { results := [.lit (.bool false)], args := [d], vars := [g1] }
  | _ => none }
def FnTermsWrongFalsely : Prop := fnTermsRow.holds Tryd.pinned (OpenSpec.ofChange fnTermsWrong)

/-- 'laws.FnWordsTwo': WHATEVER THE INPUT: true; the input reads as it did. -/
def fnWordsTwoSpec : ChangeSpec := { name := "fnWordsTwo", vars := ["loop.example/spandrel/impl.stops"], fn := fun _ => fun
  | [d1, d2, g1] => { results := [.lit (.bool true)], args := [d1, d2], vars := [g1] }
  | _ => none }
def fnWordsTwoRow : OpenClaim := { program := "ytifenfjjekpflaadoor", sum := "14336cff69aff644adba327612c20eca76c1b27f50a4a978e269f5ed2878f740", func := "loop.example/spandrel/laws.FnWordsTwo", spec := "fnWordsTwo", named := ["loop.example/spandrel/impl.stops"], apart := false, laid := [("loop.example/spandrel/impl.stops", laid_loop_example_spandrel_impl_stops)] }
def FnWordsTwoSaid : Prop := fnWordsTwoRow.holds Tryd.pinned (OpenSpec.ofChange fnWordsTwoSpec)

/-- ITS FALSE NEIGHBOUR: 'it returns false'. Refute it at one input. -/
def fnWordsTwoWrong : ChangeSpec := { name := "fnWordsTwo", vars := ["loop.example/spandrel/impl.stops"], fn := fun _ => fun
  | [d1, d2, g1] => { results := [.lit (.bool false)], args := [d1, d2], vars := [g1] }
  | _ => none }
def FnWordsTwoWrongFalsely : Prop := fnWordsTwoRow.holds Tryd.pinned (OpenSpec.ofChange fnWordsTwoWrong)

/- THE SECOND FORM. 'bulk': how many values and letters a reading holds, each counted each time it is reached (what is shared counts as often as it is met; a slice's spare places count too). A statement '..UptoSaid' is the law's where the arguments, and the package variables that the reading takes, are together of bulk at most 1048576: NARROWER than '..Said'. Prove '..Said' where nothing that the law and all that it calls make is longer than what came in: it says more and counts as full. Else prove '..UptoSaid'. A law counts once. -/
mutual
def uptoBulk {H : Type} : DataW H → Nat
  | .lit (.string bytes) => bytes.length + 1
  | .lit _ => 1
  | .nil => 1
  | .ptr d => uptoBulk d + 1
  | .slice elems spare => uptoBulkAll elems + uptoBulkAll spare + 1
  | .agg parts => uptoBulkAll parts + 1
  | .iface _ d => uptoBulk d + 1
  | .map entries => uptoBulkEntries entries + 1
  | .held _ => 1
def uptoBulkAll {H : Type} : List (DataW H) → Nat
  | [] => 0
  | d :: r => uptoBulk d + uptoBulkAll r
def uptoBulkEntries {H : Type} : List (Lit × DataW H) → Nat
  | [] => 0
  | x :: r => uptoBulkEntry x + uptoBulkEntries r
def uptoBulkEntry {H : Type} : Lit × DataW H → Nat
  | (.string bytes, d) => bytes.length + uptoBulk d + 1
  | (_, d) => uptoBulk d + 1
 end
def uptoSmall : (H : Type) → List (DataW H) → Bool := fun _ ds => decide (uptoBulkAll ds ≤ 1048576)
def OpenSpec.upto (s : _root_.Go.ChangeSpec) : _root_.Go.OpenSpec := { _root_.Go.OpenSpec.ofChange s with cond := some uptoSmall }

/-- 'laws.FnExactStem', WHERE WHAT IT READS IS OF BULK AT MOST 1048576: true; the input reads as it did. -/
def fnExactStemUptoRow : OpenClaim := { program := "ytifenfjjekpflaadoor", sum := "14336cff69aff644adba327612c20eca76c1b27f50a4a978e269f5ed2878f740", func := "loop.example/spandrel/laws.FnExactStem", spec := "fnExactStem", named := ["loop.example/spandrel/impl.stops"], apart := false, laid := [("loop.example/spandrel/impl.stops", laid_loop_example_spandrel_impl_stops)], narrowed := true }
def FnExactStemUptoSaid : Prop := fnExactStemUptoRow.holds Tryd.pinned (OpenSpec.upto fnExactStemSpec)

/-- 'laws.FnExactTermOk', WHERE WHAT IT READS IS OF BULK AT MOST 1048576: true; the input reads as it did. -/
def fnExactTermOkUptoRow : OpenClaim := { program := "ytifenfjjekpflaadoor", sum := "14336cff69aff644adba327612c20eca76c1b27f50a4a978e269f5ed2878f740", func := "loop.example/spandrel/laws.FnExactTermOk", spec := "fnExactTermOk", named := ["loop.example/spandrel/impl.stops"], apart := false, laid := [("loop.example/spandrel/impl.stops", laid_loop_example_spandrel_impl_stops)], narrowed := true }
def FnExactTermOkUptoSaid : Prop := fnExactTermOkUptoRow.holds Tryd.pinned (OpenSpec.upto fnExactTermOkSpec)

/-- 'laws.FnStemMany', WHERE WHAT IT READS IS OF BULK AT MOST 1048576: true; the input reads as it did. -/
def fnStemManyUptoRow : OpenClaim := { program := "ytifenfjjekpflaadoor", sum := "14336cff69aff644adba327612c20eca76c1b27f50a4a978e269f5ed2878f740", func := "loop.example/spandrel/laws.FnStemMany", spec := "fnStemMany", named := ["loop.example/spandrel/impl.stops"], apart := false, laid := [("loop.example/spandrel/impl.stops", laid_loop_example_spandrel_impl_stops)], narrowed := true }
def FnStemManyUptoSaid : Prop := fnStemManyUptoRow.holds Tryd.pinned (OpenSpec.upto fnStemManySpec)

/-- 'laws.FnStem', WHERE WHAT IT READS IS OF BULK AT MOST 1048576: true; the input reads as it did. -/
def fnStemUptoRow : OpenClaim := { program := "ytifenfjjekpflaadoor", sum := "14336cff69aff644adba327612c20eca76c1b27f50a4a978e269f5ed2878f740", func := "loop.example/spandrel/laws.FnStem", spec := "fnStem", named := ["loop.example/spandrel/impl.stops"], apart := false, laid := [("loop.example/spandrel/impl.stops", laid_loop_example_spandrel_impl_stops)], narrowed := true }
def FnStemUptoSaid : Prop := fnStemUptoRow.holds Tryd.pinned (OpenSpec.upto fnStemSpec)

/-- 'laws.FnExactTerms', WHERE WHAT IT READS IS OF BULK AT MOST 1048576: true; the input reads as it did. -/
def fnExactTermsUptoRow : OpenClaim := { program := "ytifenfjjekpflaadoor", sum := "14336cff69aff644adba327612c20eca76c1b27f50a4a978e269f5ed2878f740", func := "loop.example/spandrel/laws.FnExactTerms", spec := "fnExactTerms", named := ["loop.example/spandrel/impl.stops"], apart := false, laid := [("loop.example/spandrel/impl.stops", laid_loop_example_spandrel_impl_stops)], narrowed := true }
def FnExactTermsUptoSaid : Prop := fnExactTermsUptoRow.holds Tryd.pinned (OpenSpec.upto fnExactTermsSpec)

/-- 'laws.FnTerms', WHERE WHAT IT READS IS OF BULK AT MOST 1048576: true; the input reads as it did. -/
def fnTermsUptoRow : OpenClaim := { program := "ytifenfjjekpflaadoor", sum := "14336cff69aff644adba327612c20eca76c1b27f50a4a978e269f5ed2878f740", func := "loop.example/spandrel/laws.FnTerms", spec := "fnTerms", named := ["loop.example/spandrel/impl.stops"], apart := false, laid := [("loop.example/spandrel/impl.stops", laid_loop_example_spandrel_impl_stops)], narrowed := true }
def FnTermsUptoSaid : Prop := fnTermsUptoRow.holds Tryd.pinned (OpenSpec.upto fnTermsSpec)

/-- 'laws.FnWordsTwo', WHERE WHAT IT READS IS OF BULK AT MOST 1048576: true; the input reads as it did. -/
def fnWordsTwoUptoRow : OpenClaim := { program := "ytifenfjjekpflaadoor", sum := "14336cff69aff644adba327612c20eca76c1b27f50a4a978e269f5ed2878f740", func := "loop.example/spandrel/laws.FnWordsTwo", spec := "fnWordsTwo", named := ["loop.example/spandrel/impl.stops"], apart := false, laid := [("loop.example/spandrel/impl.stops", laid_loop_example_spandrel_impl_stops)], narrowed := true }
def FnWordsTwoUptoSaid : Prop := fnWordsTwoUptoRow.holds Tryd.pinned (OpenSpec.upto fnWordsTwoSpec)

end Rows
end Go.Proofs.YtifenfjjekpflaaDoor
