/-
  No cell of these rows narrows 'for every input' (looked for: loops, veiled, ifaces, maps, wideKeys, modest, calm, conditions, laid).
  DERIVED. THE GIVEN ROWS OF THIS SEAT. 6 by the template 'for every input the law returns true; each argument reads behind the call as it read before'; 0 by the template 'total and deterministic' (their statements: YtglcgkbecfmegaaTotals.lean).
  GIVEN WITH THE SEED: the statements are not yours to turn. If you find one false, say at which input.
  Laid BY PROGRAM, IN A SANDBOX (cutbox-rows.mjs): the forced cells as the released guide's own fill.sh prints them over the translation 69794b643745de0c… (all of the seat's roots in one cut). By AI agents, Wed Nov 11 2026. No macro, syntax, notation, axiom, sorry.
-/
import Derived.Test.YtglcgkbecfmegaaChecked
import GoSem.Claim
import GoSem.ClaimJoined
import GoSem.ClaimMapViews
import Derived.JoinedTies
import Derived.KernelRfl
namespace Go.Proofs.Ytglcgkbecfmegaa
/- THE CELL 'sum', in the pinned program and in every row, IS THE sha256 OF THE DUMP (.gsa) THAT YtglcgkbecfmegaaProg.lean LOADS. Nothing in Lean hashes anything: it is a label: what it is worth is what the hold of that sum in a sandbox is worth. -/
noncomputable def Try.pinned : Pinned := { name := "ytglcgkbecfmegaa", sum := "69794b643745de0c695d7d6f31d2a0e5a13cac6376d98b8271e8b1214473fc48", checked := Try.checked }
namespace Rows
def none {H : Type} : Left H := { results := [], args := [] }

/-- 'laws.FnExactIndexNew': WHATEVER THE INPUT: true; the input reads as it did. -/
def fnExactIndexNewSpec : ChangeSpec := { name := "fnExactIndexNew", fn := fun _ => fun
  | [d] => { results := [.lit (.bool true)], args := [d] }
  | _ => none }
def fnExactIndexNewRow : OpenClaim := { program := "ytglcgkbecfmegaa", sum := "69794b643745de0c695d7d6f31d2a0e5a13cac6376d98b8271e8b1214473fc48", func := "loop.example/spandrel/laws.FnExactIndexNew", spec := "fnExactIndexNew", apart := false }
def FnExactIndexNewSaid : Prop := fnExactIndexNewRow.holds Try.pinned (OpenSpec.ofChange fnExactIndexNewSpec)

/-- ITS FALSE NEIGHBOUR: 'it returns false'. Refute it at one input. -/
def fnExactIndexNewWrong : ChangeSpec := { name := "fnExactIndexNew", fn := fun _ => fun
  | [d] => { results := [.lit (.bool false)], args := [d] }
  | _ => none }
def FnExactIndexNewWrongFalsely : Prop := fnExactIndexNewRow.holds Try.pinned (OpenSpec.ofChange fnExactIndexNewWrong)

/-- 'laws.FnExactSetOr': WHATEVER THE INPUT: true; the input reads as it did. -/
def fnExactSetOrSpec : ChangeSpec := { name := "fnExactSetOr", fn := fun _ => fun
  | [d1, d2] => { results := [.lit (.bool true)], args := [d1, d2] }
  | _ => none }
def fnExactSetOrRow : OpenClaim := { program := "ytglcgkbecfmegaa", sum := "69794b643745de0c695d7d6f31d2a0e5a13cac6376d98b8271e8b1214473fc48", func := "loop.example/spandrel/laws.FnExactSetOr", spec := "fnExactSetOr", recurses := true, apart := false }
def FnExactSetOrSaid : Prop := fnExactSetOrRow.holds Try.pinned (OpenSpec.ofChange fnExactSetOrSpec)

/-- ITS FALSE NEIGHBOUR: 'it returns false'. Refute it at one input. -/
def fnExactSetOrWrong : ChangeSpec := { name := "fnExactSetOr", fn := fun _ => fun
  | [d1, d2] => { results := [.lit (.bool false)], args := [d1, d2] }
  | _ => none }
def FnExactSetOrWrongFalsely : Prop := fnExactSetOrRow.holds Try.pinned (OpenSpec.ofChange fnExactSetOrWrong)

/-- 'laws.FnSetNone': WHATEVER THE INPUT: true; the input reads as it did. -/
def fnSetNoneSpec : ChangeSpec := { name := "fnSetNone", fn := fun _ => fun
  | [d] => { results := [.lit (.bool true)], args := [d] }
  | _ => none }
def fnSetNoneRow : OpenClaim := { program := "ytglcgkbecfmegaa", sum := "69794b643745de0c695d7d6f31d2a0e5a13cac6376d98b8271e8b1214473fc48", func := "loop.example/spandrel/laws.FnSetNone", spec := "fnSetNone", recurses := true, apart := false }
def FnSetNoneSaid : Prop := fnSetNoneRow.holds Try.pinned (OpenSpec.ofChange fnSetNoneSpec)

/-- ITS FALSE NEIGHBOUR: 'it returns false'. Refute it at one input. -/
def fnSetNoneWrong : ChangeSpec := { name := "fnSetNone", fn := fun _ => fun
  | [d] => { results := [.lit (.bool false)], args := [d] }
  | _ => none }
def FnSetNoneWrongFalsely : Prop := fnSetNoneRow.holds Try.pinned (OpenSpec.ofChange fnSetNoneWrong)

/-- 'laws.FnSetThree': WHATEVER THE INPUT: true; the input reads as it did. -/
def fnSetThreeSpec : ChangeSpec := { name := "fnSetThree", fn := fun _ => fun
  | [d1, d2] => { results := [.lit (.bool true)], args := [d1, d2] }
  | _ => none }
def fnSetThreeRow : OpenClaim := { program := "ytglcgkbecfmegaa", sum := "69794b643745de0c695d7d6f31d2a0e5a13cac6376d98b8271e8b1214473fc48", func := "loop.example/spandrel/laws.FnSetThree", spec := "fnSetThree", recurses := true, apart := false }
def FnSetThreeSaid : Prop := fnSetThreeRow.holds Try.pinned (OpenSpec.ofChange fnSetThreeSpec)

/-- ITS FALSE NEIGHBOUR: 'it returns false'. Refute it at one input. -/
def fnSetThreeWrong : ChangeSpec := { name := "fnSetThree", fn := fun _ => fun
  | [d1, d2] => { results := [.lit (.bool false)], args := [d1, d2] }
  | _ => none }
def FnSetThreeWrongFalsely : Prop := fnSetThreeRow.holds Try.pinned (OpenSpec.ofChange fnSetThreeWrong)

/-- 'laws.FnSetOr': WHATEVER THE INPUT: true; the input reads as it did. -/
def fnSetOrSpec : ChangeSpec := { name := "fnSetOr", fn := fun _ => fun
  | [d] => { results := [.lit (.bool true)], args := [d] }
  | _ => none }
def fnSetOrRow : OpenClaim := { program := "ytglcgkbecfmegaa", sum := "69794b643745de0c695d7d6f31d2a0e5a13cac6376d98b8271e8b1214473fc48", func := "loop.example/spandrel/laws.FnSetOr", spec := "fnSetOr", recurses := true, apart := false }
def FnSetOrSaid : Prop := fnSetOrRow.holds Try.pinned (OpenSpec.ofChange fnSetOrSpec)

/-- ITS FALSE NEIGHBOUR: 'it returns false'. Refute it at one input. -/
def fnSetOrWrong : ChangeSpec := { name := "fnSetOr", fn := fun _ => fun
  | [d] => { results := [.lit (.bool false)], args := [d] }
  | _ => none }
def FnSetOrWrongFalsely : Prop := fnSetOrRow.holds Try.pinned (OpenSpec.ofChange fnSetOrWrong)

/-- 'laws.FnSetLess': WHATEVER THE INPUT: true; the input reads as it did. -/
def fnSetLessSpec : ChangeSpec := { name := "fnSetLess", fn := fun _ => fun
  | [d] => { results := [.lit (.bool true)], args := [d] }
  | _ => none }
def fnSetLessRow : OpenClaim := { program := "ytglcgkbecfmegaa", sum := "69794b643745de0c695d7d6f31d2a0e5a13cac6376d98b8271e8b1214473fc48", func := "loop.example/spandrel/laws.FnSetLess", spec := "fnSetLess", recurses := true, apart := false }
def FnSetLessSaid : Prop := fnSetLessRow.holds Try.pinned (OpenSpec.ofChange fnSetLessSpec)

/-- ITS FALSE NEIGHBOUR: 'it returns false'. Refute it at one input. -/
def fnSetLessWrong : ChangeSpec := { name := "fnSetLess", fn := fun _ => fun
  | [d] => { results := [.lit (.bool false)], args := [d] }
  | _ => none }
def FnSetLessWrongFalsely : Prop := fnSetLessRow.holds Try.pinned (OpenSpec.ofChange fnSetLessWrong)

/- THE SECOND FORM. 'bulk': how many values and letters a reading holds, each counted each time it is reached (what is shared counts as often as it is met; a slice's spare places count too). A statement '..UptoSaid' is the law's where the arguments, and the package variables that the reading takes, are together of bulk at most 1048576: NARROWER than '..Said'. Prove '..Said' where nothing that the law and all that it calls make is longer than what came in: it says more and counts as full. Else prove '..UptoSaid'. A law counts once. -/
mutual
def uptoBulk {H : Type} : DataW H → Nat
  | .lit (.string bytes) => bytes.length + 1
  | .lit _ => 1
  | .nil => 1
  | .ptr d => uptoBulk d + 1
  | .slice elems spare => uptoBulkAll elems + uptoBulkAll spare + 1
  | .agg parts => uptoBulkAll parts + 1
  | .iface _ d => uptoBulk d + 1
  | .map entries => uptoBulkEntries entries + 1
  | .held _ => 1
def uptoBulkAll {H : Type} : List (DataW H) → Nat
  | [] => 0
  | d :: r => uptoBulk d + uptoBulkAll r
def uptoBulkEntries {H : Type} : List (Lit × DataW H) → Nat
  | [] => 0
  | x :: r => uptoBulkEntry x + uptoBulkEntries r
def uptoBulkEntry {H : Type} : Lit × DataW H → Nat
  | (.string bytes, d) => bytes.length + uptoBulk d + 1
  | (_, d) => uptoBulk d + 1
 end
def uptoSmall : (H : Type) → List (DataW H) → Bool := fun _ ds => decide (uptoBulkAll ds ≤ 1048576)
def OpenSpec.upto (s : _root_.Go.ChangeSpec) : _root_.Go.OpenSpec := { _root_.Go.OpenSpec.ofChange s with cond := some uptoSmall }

/-- 'laws.FnExactIndexNew', WHERE WHAT IT READS IS OF BULK AT MOST 1048576: true; the input reads as it did. -/
def fnExactIndexNewUptoRow : OpenClaim := { program := "ytglcgkbecfmegaa", sum := "69794b643745de0c695d7d6f31d2a0e5a13cac6376d98b8271e8b1214473fc48", func := "loop.example/spandrel/laws.FnExactIndexNew", spec := "fnExactIndexNew", apart := false, narrowed := true }
def FnExactIndexNewUptoSaid : Prop := fnExactIndexNewUptoRow.holds Try.pinned (OpenSpec.upto fnExactIndexNewSpec)

/-- 'laws.FnExactSetOr', WHERE WHAT IT READS IS OF BULK AT MOST 1048576: true; the input reads as it did. -/
def fnExactSetOrUptoRow : OpenClaim := { program := "ytglcgkbecfmegaa", sum := "69794b643745de0c695d7d6f31d2a0e5a13cac6376d98b8271e8b1214473fc48", func := "loop.example/spandrel/laws.FnExactSetOr", spec := "fnExactSetOr", recurses := true, apart := false, narrowed := true }
def FnExactSetOrUptoSaid : Prop := fnExactSetOrUptoRow.holds Try.pinned (OpenSpec.upto fnExactSetOrSpec)

/-- 'laws.FnSetNone', WHERE WHAT IT READS IS OF BULK AT MOST 1048576: true; the input reads as it did. -/
def fnSetNoneUptoRow : OpenClaim := { program := "ytglcgkbecfmegaa", sum := "69794b643745de0c695d7d6f31d2a0e5a13cac6376d98b8271e8b1214473fc48", func := "loop.example/spandrel/laws.FnSetNone", spec := "fnSetNone", recurses := true, apart := false, narrowed := true }
def FnSetNoneUptoSaid : Prop := fnSetNoneUptoRow.holds Try.pinned (OpenSpec.upto fnSetNoneSpec)

/-- 'laws.FnSetThree', WHERE WHAT IT READS IS OF BULK AT MOST 1048576: true; the input reads as it did. -/
def fnSetThreeUptoRow : OpenClaim := { program := "ytglcgkbecfmegaa", sum := "69794b643745de0c695d7d6f31d2a0e5a13cac6376d98b8271e8b1214473fc48", func := "loop.example/spandrel/laws.FnSetThree", spec := "fnSetThree", recurses := true, apart := false, narrowed := true }
def FnSetThreeUptoSaid : Prop := fnSetThreeUptoRow.holds Try.pinned (OpenSpec.upto fnSetThreeSpec)

/-- 'laws.FnSetOr', WHERE WHAT IT READS IS OF BULK AT MOST 1048576: true; the input reads as it did. -/
def fnSetOrUptoRow : OpenClaim := { program := "ytglcgkbecfmegaa", sum := "69794b643745de0c695d7d6f31d2a0e5a13cac6376d98b8271e8b1214473fc48", func := "loop.example/spandrel/laws.FnSetOr", spec := "fnSetOr", recurses := true, apart := false, narrowed := true }
def FnSetOrUptoSaid : Prop := fnSetOrUptoRow.holds Try.pinned (OpenSpec.upto fnSetOrSpec)

/-- 'laws.FnSetLess', WHERE WHAT IT READS IS OF BULK AT MOST 1048576: true; the input reads as it did. -/
def fnSetLessUptoRow : OpenClaim := { program := "ytglcgkbecfmegaa", sum := "69794b643745de0c695d7d6f31d2a0e5a13cac6376d98b8271e8b1214473fc48", func := "loop.example/spandrel/laws.FnSetLess", spec := "fnSetLess", recurses := true, apart := false, narrowed := true }
def FnSetLessUptoSaid : Prop := fnSetLessUptoRow.holds Try.pinned (OpenSpec.upto fnSetLessSpec)

end Rows
end Go.Proofs.Ytglcgkbecfmegaa
