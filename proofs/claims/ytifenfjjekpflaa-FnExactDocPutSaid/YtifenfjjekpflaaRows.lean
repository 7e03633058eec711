/-
  No cell of these rows narrows 'for every input' (looked for: loops, veiled, ifaces, maps, wideKeys, modest, calm, conditions, laid).
  DERIVED. THE GIVEN ROWS OF THIS SEAT. 5 by the template 'for every input the law returns true; each argument reads behind the call as it read before'; 0 by the template 'total and deterministic' (their statements: YtifenfjjekpflaaTotals.lean).
  GIVEN WITH THE SEED: the statements are not yours to turn. If you find one false, say at which input.
  Laid BY PROGRAM, IN A SANDBOX (cutbox-rows.mjs): the forced cells as the released guide's own fill.sh prints them over the translation b46a0d46c518c684… (all of the seat's roots in one cut). By AI agents, Wed Nov 11 2026. No macro, syntax, notation, axiom, sorry.
-/
import Derived.Test.YtifenfjjekpflaaChecked
import GoSem.Claim
import GoSem.ClaimJoined
import GoSem.ClaimMapViews
import Derived.JoinedTies
import Derived.KernelRfl
namespace Go.Proofs.Ytifenfjjekpflaa
/- THE CELL 'sum', in the pinned program and in every row, IS THE sha256 OF THE DUMP (.gsa) THAT YtifenfjjekpflaaProg.lean LOADS. Nothing in Lean hashes anything: it is a label: what it is worth is what the hold of that sum in a sandbox is worth. -/
noncomputable def Try.pinned : Pinned := { name := "ytifenfjjekpflaa", sum := "b46a0d46c518c6842b85b06c1c2ab3325a4e571b0656c5179aced705435c76e6", checked := Try.checked }
namespace Rows
def none {H : Type} : Left H := { results := [], args := [] }

/-- 'laws.FnSetHas': WHATEVER THE INPUT: true; the input reads as it did. -/
def fnSetHasSpec : ChangeSpec := { name := "fnSetHas", fn := fun _ => fun
  | [d] => { results := [.lit (.bool true)], args := [d] }
  | _ => none }
def fnSetHasRow : OpenClaim := { program := "ytifenfjjekpflaa", sum := "b46a0d46c518c6842b85b06c1c2ab3325a4e571b0656c5179aced705435c76e6", func := "loop.example/spandrel/laws.FnSetHas", spec := "fnSetHas", apart := false }
def FnSetHasSaid : Prop := fnSetHasRow.holds Try.pinned (OpenSpec.ofChange fnSetHasSpec)

/-- ITS FALSE NEIGHBOUR: 'it returns false'. Refute it at one input. -/
def fnSetHasWrong : ChangeSpec := { name := "fnSetHas", fn := fun _ => fun
  | [d] => { results := [.lit (.bool false)], args := [d] }
  | _ => none }
def FnSetHasWrongFalsely : Prop := fnSetHasRow.holds Try.pinned (OpenSpec.ofChange fnSetHasWrong)

/-- 'laws.FnDocText': WHATEVER THE INPUT: true; the input reads as it did. -/
def fnDocTextSpec : ChangeSpec := { name := "fnDocText", fn := fun _ => fun
  | [d] => { results := [.lit (.bool true)], args := [d] }
  | _ => none }
def fnDocTextRow : OpenClaim := { program := "ytifenfjjekpflaa", sum := "b46a0d46c518c6842b85b06c1c2ab3325a4e571b0656c5179aced705435c76e6", func := "loop.example/spandrel/laws.FnDocText", spec := "fnDocText", apart := false }
def FnDocTextSaid : Prop := fnDocTextRow.holds Try.pinned (OpenSpec.ofChange fnDocTextSpec)

/-- ITS FALSE NEIGHBOUR: 'it returns false'. Refute it at one input. -/
def fnDocTextWrong : ChangeSpec := { name := "fnDocText", fn := fun _ => fun
  | [d] => { results := [.lit (.bool false)], args := [d] }
  | _ => none }
def FnDocTextWrongFalsely : Prop := fnDocTextRow.holds Try.pinned (OpenSpec.ofChange fnDocTextWrong)

/-- 'laws.FnExactFieldsOk': WHATEVER THE INPUT: true; the input reads as it did. -/
def fnExactFieldsOkSpec : ChangeSpec := { name := "fnExactFieldsOk", fn := fun _ => fun
  | [d] => { results := [.lit (.bool true)], args := [d] }
  | _ => none }
def fnExactFieldsOkRow : OpenClaim := { program := "ytifenfjjekpflaa", sum := "b46a0d46c518c6842b85b06c1c2ab3325a4e571b0656c5179aced705435c76e6", func := "loop.example/spandrel/laws.FnExactFieldsOk", spec := "fnExactFieldsOk", apart := false }
def FnExactFieldsOkSaid : Prop := fnExactFieldsOkRow.holds Try.pinned (OpenSpec.ofChange fnExactFieldsOkSpec)

/-- ITS FALSE NEIGHBOUR: 'it returns false'. Refute it at one input. -/
def fnExactFieldsOkWrong : ChangeSpec := { name := "fnExactFieldsOk", fn := fun _ => fun
  | [d] => { results := [.lit (.bool false)], args := [d] }
  | _ => none }
def FnExactFieldsOkWrongFalsely : Prop := fnExactFieldsOkRow.holds Try.pinned (OpenSpec.ofChange fnExactFieldsOkWrong)

/-- 'laws.FnSetAnd': WHATEVER THE INPUT: true; the input reads as it did. -/
def fnSetAndSpec : ChangeSpec := { name := "fnSetAnd", fn := fun _ => fun
  | [d] => { results := [.lit (.bool true)], args := [d] }
  | _ => none }
def fnSetAndRow : OpenClaim := { program := "ytifenfjjekpflaa", sum := "b46a0d46c518c6842b85b06c1c2ab3325a4e571b0656c5179aced705435c76e6", func := "loop.example/spandrel/laws.FnSetAnd", spec := "fnSetAnd", apart := false }
def FnSetAndSaid : Prop := fnSetAndRow.holds Try.pinned (OpenSpec.ofChange fnSetAndSpec)

/-- ITS FALSE NEIGHBOUR: 'it returns false'. Refute it at one input. -/
def fnSetAndWrong : ChangeSpec := { name := "fnSetAnd", fn := fun _ => fun
  | [d] => { results := [.lit (.bool false)], args := [d] }
  | _ => none }
def FnSetAndWrongFalsely : Prop := fnSetAndRow.holds Try.pinned (OpenSpec.ofChange fnSetAndWrong)

/-- 'laws.FnExactDocPut': WHATEVER THE INPUT: true; the input reads as it did. -/
def fnExactDocPutSpec : ChangeSpec := { name := "fnExactDocPut", fn := fun _ => fun
  | [d] => { results := [.lit (.bool true)], args := [d] }
  | _ => none }
def fnExactDocPutRow : OpenClaim := { program := "ytifenfjjekpflaa", sum := "b46a0d46c518c6842b85b06c1c2ab3325a4e571b0656c5179aced705435c76e6", func := "loop.example/spandrel/laws.FnExactDocPut", spec := "fnExactDocPut", apart := false }
def FnExactDocPutSaid : Prop := fnExactDocPutRow.holds Try.pinned (OpenSpec.ofChange fnExactDocPutSpec)

/-- ITS FALSE NEIGHBOUR: 'it returns false'. Refute it at one input. -/
def fnExactDocPutWrong : ChangeSpec := { name := "fnExactDocPut", fn := fun _ => fun
  | [d] => { results := [.lit (.bool false)], args := [d] }
  | _ => none }
def FnExactDocPutWrongFalsely : Prop := fnExactDocPutRow.holds Try.pinned (OpenSpec.ofChange fnExactDocPutWrong)

/- THE SECOND FORM. 'bulk': how many values and letters a reading holds, each counted each time it is reached (what is shared counts as often as it is met; a slice's spare places count too). A statement '..UptoSaid' is the law's where the arguments, and the package variables that the reading takes, are together of bulk at most 1048576: NARROWER than '..Said'. Prove '..Said' where nothing that the law and all that it calls make is longer than what came in: it says more and counts as full. Else prove '..UptoSaid'. A law counts once. -/
mutual
def uptoBulk {H : Type} : DataW H → Nat
  | .lit (.string bytes) => bytes.length + 1
  | .lit _ => 1
  | .nil => 1
  | .ptr d => uptoBulk d + 1
  | .slice elems spare => uptoBulkAll elems + uptoBulkAll spare + 1
  | .agg parts => uptoBulkAll parts + 1
  | .iface _ d => uptoBulk d + 1
  | .map entries => uptoBulkEntries entries + 1
  | .held _ => 1
def uptoBulkAll {H : Type} : List (DataW H) → Nat
  | [] => 0
  | d :: r => uptoBulk d + uptoBulkAll r
def uptoBulkEntries {H : Type} : List (Lit × DataW H) → Nat
  | [] => 0
  | x :: r => uptoBulkEntry x + uptoBulkEntries r
def uptoBulkEntry {H : Type} : Lit × DataW H → Nat
  | (.string bytes, d) => bytes.length + uptoBulk d + 1
  | (_, d) => uptoBulk d + 1
 end
def uptoSmall : (H : Type) → List (DataW H) → Bool := fun _ ds => decide (uptoBulkAll ds ≤ 1048576)
def OpenSpec.upto (s : _root_.Go.ChangeSpec) : _root_.Go.OpenSpec := { _root_.Go.OpenSpec.ofChange s with cond := some uptoSmall }

/-- 'laws.FnSetHas', WHERE WHAT IT READS IS OF BULK AT MOST 1048576: true; the input reads as it did. -/
def fnSetHasUptoRow : OpenClaim := { program := "ytifenfjjekpflaa", sum := "b46a0d46c518c6842b85b06c1c2ab3325a4e571b0656c5179aced705435c76e6", func := "loop.example/spandrel/laws.FnSetHas", spec := "fnSetHas", apart := false, narrowed := true }
def FnSetHasUptoSaid : Prop := fnSetHasUptoRow.holds Try.pinned (OpenSpec.upto fnSetHasSpec)

/-- 'laws.FnDocText', WHERE WHAT IT READS IS OF BULK AT MOST 1048576: true; the input reads as it did. -/
def fnDocTextUptoRow : OpenClaim := { program := "ytifenfjjekpflaa", sum := "b46a0d46c518c6842b85b06c1c2ab3325a4e571b0656c5179aced705435c76e6", func := "loop.example/spandrel/laws.FnDocText", spec := "fnDocText", apart := false, narrowed := true }
def FnDocTextUptoSaid : Prop := fnDocTextUptoRow.holds Try.pinned (OpenSpec.upto fnDocTextSpec)

/-- 'laws.FnExactFieldsOk', WHERE WHAT IT READS IS OF BULK AT MOST 1048576: true; the input reads as it did. -/
def fnExactFieldsOkUptoRow : OpenClaim := { program := "ytifenfjjekpflaa", sum := "b46a0d46c518c6842b85b06c1c2ab3325a4e571b0656c5179aced705435c76e6", func := "loop.example/spandrel/laws.FnExactFieldsOk", spec := "fnExactFieldsOk", apart := false, narrowed := true }
def FnExactFieldsOkUptoSaid : Prop := fnExactFieldsOkUptoRow.holds Try.pinned (OpenSpec.upto fnExactFieldsOkSpec)

/-- 'laws.FnSetAnd', WHERE WHAT IT READS IS OF BULK AT MOST 1048576: true; the input reads as it did. -/
def fnSetAndUptoRow : OpenClaim := { program := "ytifenfjjekpflaa", sum := "b46a0d46c518c6842b85b06c1c2ab3325a4e571b0656c5179aced705435c76e6", func := "loop.example/spandrel/laws.FnSetAnd", spec := "fnSetAnd", apart := false, narrowed := true }
def FnSetAndUptoSaid : Prop := fnSetAndUptoRow.holds Try.pinned (OpenSpec.upto fnSetAndSpec)

/-- 'laws.FnExactDocPut', WHERE WHAT IT READS IS OF BULK AT MOST 1048576: true; the input reads as it did. -/
def fnExactDocPutUptoRow : OpenClaim := { program := "ytifenfjjekpflaa", sum := "b46a0d46c518c6842b85b06c1c2ab3325a4e571b0656c5179aced705435c76e6", func := "loop.example/spandrel/laws.FnExactDocPut", spec := "fnExactDocPut", apart := false, narrowed := true }
def FnExactDocPutUptoSaid : Prop := fnExactDocPutUptoRow.holds Try.pinned (OpenSpec.upto fnExactDocPutSpec)

end Rows
end Go.Proofs.Ytifenfjjekpflaa
