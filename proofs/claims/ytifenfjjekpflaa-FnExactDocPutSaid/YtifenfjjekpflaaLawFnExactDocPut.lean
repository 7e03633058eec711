/- The law FnExactDocPut: for every input it returns true, and each argument reads behind the call as before; no condition. -/
import Derived.Test.YtifenfjjekpflaaRows
import Derived.Test.YtifenfjjekpflaaPFnExactDocPutx5
import Derived.Test.YtifenfjjekpflaaSFnExactDocPut
import Derived.Test.YtifenfjjekpflaaPureFnExactDocPut
import Derived.WalkKit
import Derived.ProofKit
import Derived.OpenShut
import Derived.ShutString
import Derived.ChangeOld
import Derived.Below
import Derived.SizedLaws
namespace Go.Proofs.Ytifenfjjekpflaa.fnExactDocPut
open Go.ChangeShapes Go.WideShapes Go.ChangeAt Go.RowKit Go.Proofs.Ytifenfjjekpflaa.PFnExactDocPut Go.Proofs.Ytifenfjjekpflaa.Opens Go.Proofs.YtifenfjjekpflaaW.PrintWords Go.Proofs.YtifenfjjekpflaaW.PrintLast Go.Proofs.YtifenfjjekpflaaW.PrintMore
open Go.ChangeMaps (open_string shut_string)
set_option linter.unusedVariables false
theorem own : ownKnob Try.prog.godebug = none := by kernel_rfl
theorem laidOut : laidOutB Try.prog = true := by kernel_rfl
theorem opens88 : Opens Try.prog 88 k88 good88 :=
  by have h := Opens.iso (Opens.struct Try.underlying88 (Tail.cons (Opens.string Try.underlying9 (by kernel_rfl)) rfl (Tail.one (Opens.string Try.underlying9 (by kernel_rfl)) rfl)) (by kernel_rfl)) (fun x : S88 => (x.f0, x.f1)) (fun p => (⟨p.1, p.2⟩ : S88)) (fun _ => rfl); exact h
set_option maxRecDepth 100000 in
theorem lifted (os : Os) (started : os.Started) (H : Type) (enc : TypeId × Value → H) :
    ReturnsInHanded {} Try.checked os 7 .any (Rows.fnExactDocPutSpec.pre6 enc Try.prog Try.f7 Rows.fnExactDocPutRow.domain false) (Rows.fnExactDocPutSpec.post enc Try.prog Try.f7 false true false false) := by
  refine returnsInHanded_of_change_sized (C := Try.checked) own started (by kernel_rfl) Try.func7
    (ChangeSpec.witness6 (enc := enc) (C := Try.checked) false ⟨#[], #[.agg #[.string ByteArray.empty, .slice none 0 0]], []⟩ 8 (by kernel_rfl) (by kernel_rfl) (by kernel_rfl) (by kernel_rfl)) ?_
  intro W base args ds gs before hval0 hW hcnd hsz0 _
  have hval : ∀ (j : Nat) t v, Try.f7.params[j]? = some t → args[j]? = some v → Value.okWide Try.prog W .any base t v := hval0
  have hW' := hW
  obtain ⟨p, q, hA0, hV, rfl, hfz, hnd⟩ := hW
  have hA : DataW.TrodAll enc Try.prog W 0 (fun _ => true) true Try.f7.params.toList args.toList ds p := hA0
  rw [Try.params7] at hA hval
  obtain ⟨v0, vs0, d0, ds0, p0, q0, hargs, rfl, rfl, h0, r0⟩ := trodAll_cons hA
  obtain ⟨rfl, rfl, rfl⟩ := trodAll_nil r0
  obtain rfl : args = #[v0] := by cases args; simp_all
  obtain ⟨rfl, rfl⟩ := trodVars_none hV
  obtain ⟨cs0, rfl, hcs0⟩ := okWide_struct Try.underlying51 (hval 0 51 v0 rfl rfl)
  have k0_ := h0
  have lt0 : ∀ x ∈ p0, x.block < W.heap.size := by obtain ⟨m, hm⟩ := k0_; exact DataW.trod_lt m _ _ _ hm
  obtain ⟨fuel0, hf0⟩ := h0
  obtain ⟨⟨a0_0, l0_1⟩, hK0, ⟨g0_0, g0_1⟩⟩ := (Opens.struct Try.underlying51 (Tail.cons (Opens.string Try.underlying9 (by kernel_rfl)) rfl (Tail.one (Opens.slice Try.underlying49 (by kernel_rfl) opens88) rfl)) (by kernel_rfl)).op hf0
  obtain ⟨C0, C0', eC0, rfl, ⟨B0_1, c0_1, rfl, hc0_1, hr0_1⟩⟩ := hK0
  obtain rfl : cs0 = #[Value.string a0_0, Value.slice B0_1 l0_1.length c0_1] := by
    cases cs0 with
    | mk l => simpa [Value.cells] using eC0
  clear hA0 hval0 hsz0
  obtain ⟨k, hk⟩ := Pure.FnExactDocPut a0_0 l0_1 g0_0 g0_1
  refine (laws_FnExactDocPut.calls k a0_0 _ _ l0_1 true W hr0_1 hc0_1 hk).mono fun e W' ⟨he, bel⟩ => ?_
  subst he
  exact ⟨_, rfl, _, _, _, [], _, [], hW', trodAll_mk1 (shut_bool Try.underlying4 _), (trodAll_cons_mk (Below.trod laidOut (by kernel_rfl) (of_decide_eq_true (by kernel_rfl)) k0_ bel lt0) trodAll_mk0), rfl, bel.frame _, fun h => by cases h⟩
theorem over : Rows.fnExactDocPutRow.holds Try.pinned (OpenSpec.ofChange Rows.fnExactDocPutSpec) :=
  OpenClaim.holds_of_wide 7 Try.f7 rfl rfl rfl rfl rfl rfl rfl ⟨rfl, rfl, rfl, rfl, rfl⟩ rfl rfl rfl rfl rfl (by kernel_rfl) Try.func7 (by kernel_rfl)
    (of_decide_eq_true (by kernel_rfl)) (by unfold Func.isWrapper; first | (rw [if_pos (by decide +kernel)]; kernel_rfl) | (rw [if_neg (by decide +kernel)]; exact ⟨rfl, rfl⟩))
    (fun os started H enc _ => lifted os started H enc)
#print axioms over
end Go.Proofs.Ytifenfjjekpflaa.fnExactDocPut
namespace Go.Proofs.Ytifenfjjekpflaa
/-- The row, under a short name, for the claim. -/
theorem fnExactDocPut_holds : Rows.FnExactDocPutSaid := fnExactDocPut.over
end Go.Proofs.Ytifenfjjekpflaa
