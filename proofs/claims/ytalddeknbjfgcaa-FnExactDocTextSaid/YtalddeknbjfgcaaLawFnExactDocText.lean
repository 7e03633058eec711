/- The law FnExactDocText: for every input it returns true, and each argument reads behind the call as before; no condition. -/
import Derived.Test.YtalddeknbjfgcaaRows
import Derived.Test.YtalddeknbjfgcaaPFnExactDocTextx3
import Derived.Test.YtalddeknbjfgcaaSFnExactDocText
import Derived.Test.YtalddeknbjfgcaaPureFnExactDocText
import Derived.WalkKit
import Derived.ProofKit
import Derived.OpenShut
import Derived.ShutString
import Derived.ChangeOld
import Derived.Below
import Derived.SizedLaws
namespace Go.Proofs.Ytalddeknbjfgcaa.fnExactDocText
open Go.ChangeShapes Go.WideShapes Go.ChangeAt Go.RowKit Go.Proofs.Ytalddeknbjfgcaa.PFnExactDocText Go.Proofs.Ytalddeknbjfgcaa.Opens Go.Proofs.YtalddeknbjfgcaaW.PrintWords Go.Proofs.YtalddeknbjfgcaaW.PrintLast Go.Proofs.YtalddeknbjfgcaaW.PrintMore
open Go.ChangeMaps (open_string shut_string)
set_option linter.unusedVariables false
theorem own : ownKnob Try.prog.godebug = none := by kernel_rfl
theorem laidOut : laidOutB Try.prog = true := by kernel_rfl
theorem opens75 : Opens Try.prog 75 k75 good75 :=
  by have h := Opens.iso (Opens.struct Try.underlying75 (Tail.cons (Opens.string Try.underlying9 (by kernel_rfl)) rfl (Tail.one (Opens.string Try.underlying9 (by kernel_rfl)) rfl)) (by kernel_rfl)) (fun x : S75 => (x.f0, x.f1)) (fun p => (⟨p.1, p.2⟩ : S75)) (fun _ => rfl); exact h
set_option maxRecDepth 100000 in
theorem lifted (os : Os) (started : os.Started) (H : Type) (enc : TypeId × Value → H) :
    ReturnsInHanded {} Try.checked os 11 .any (Rows.fnExactDocTextSpec.pre6 enc Try.prog Try.f11 Rows.fnExactDocTextRow.domain false) (Rows.fnExactDocTextSpec.post enc Try.prog Try.f11 false true false false) := by
  refine returnsInHanded_of_change_sized (C := Try.checked) own started (by kernel_rfl) Try.func11
    (ChangeSpec.witness6 (enc := enc) (C := Try.checked) false ⟨#[], #[.agg #[.string ByteArray.empty, .slice none 0 0], .string ByteArray.empty], []⟩ 8 (by kernel_rfl) (by kernel_rfl) (by kernel_rfl) (by kernel_rfl)) ?_
  intro W base args ds gs before hval0 hW hcnd hsz0 _
  have hval : ∀ (j : Nat) t v, Try.f11.params[j]? = some t → args[j]? = some v → Value.okWide Try.prog W .any base t v := hval0
  have hW' := hW
  obtain ⟨p, q, hA0, hV, rfl, hfz, hnd⟩ := hW
  have hA : DataW.TrodAll enc Try.prog W 0 (fun _ => true) true Try.f11.params.toList args.toList ds p := hA0
  rw [Try.params11] at hA hval
  obtain ⟨v0, vs0, d0, ds0, p0, q0, hargs, rfl, rfl, h0, r0⟩ := trodAll_cons hA
  obtain ⟨v1, vs1, d1, ds1, p1, q1, rfl, rfl, rfl, h1, r1⟩ := trodAll_cons r0
  obtain ⟨rfl, rfl, rfl⟩ := trodAll_nil r1
  obtain rfl : args = #[v0, v1] := by cases args; simp_all
  obtain ⟨rfl, rfl⟩ := trodVars_none hV
  obtain ⟨cs0, rfl, hcs0⟩ := okWide_struct Try.underlying40 (hval 0 40 v0 rfl rfl)
  have k0_ := h0
  have lt0 : ∀ x ∈ p0, x.block < W.heap.size := by obtain ⟨m, hm⟩ := k0_; exact DataW.trod_lt m _ _ _ hm
  obtain ⟨fuel0, hf0⟩ := h0
  obtain ⟨⟨a0_0, l0_1⟩, hK0, ⟨g0_0, g0_1⟩⟩ := (Opens.struct Try.underlying40 (Tail.cons (Opens.string Try.underlying9 (by kernel_rfl)) rfl (Tail.one (Opens.slice Try.underlying38 (by kernel_rfl) opens75) rfl)) (by kernel_rfl)).op hf0
  obtain ⟨C0, C0', eC0, rfl, ⟨B0_1, c0_1, rfl, hc0_1, hr0_1⟩⟩ := hK0
  obtain rfl : cs0 = #[Value.string a0_0, Value.slice B0_1 l0_1.length c0_1] := by
    cases cs0 with
    | mk l => simpa [Value.cells] using eC0
  obtain ⟨a1, rfl, rfl, rfl, y1⟩ := open_string Try.underlying9 (hval 1 9 v1 rfl rfl) h1
  clear hA0 hval0 hsz0
  obtain ⟨k, hk⟩ := Pure.FnExactDocText a0_0 l0_1 a1 g0_0 g0_1 y1
  refine (laws_FnExactDocText.calls k a0_0 _ _ l0_1 a1 true W hr0_1 hc0_1 hk).mono fun e W' ⟨he, bel⟩ => ?_
  subst he
  exact ⟨_, rfl, _, _, _, [], _, [], hW', trodAll_mk1 (shut_bool Try.underlying4 _), (trodAll_cons_mk (Below.trod laidOut (by kernel_rfl) (of_decide_eq_true (by kernel_rfl)) k0_ bel lt0) (trodAll_cons_mk (shut_string Try.underlying9 y1) trodAll_mk0)), rfl, bel.frame _, fun h => by cases h⟩
theorem over : Rows.fnExactDocTextRow.holds Try.pinned (OpenSpec.ofChange Rows.fnExactDocTextSpec) :=
  OpenClaim.holds_of_wide 11 Try.f11 rfl rfl rfl rfl rfl rfl rfl ⟨rfl, rfl, rfl, rfl, rfl⟩ rfl rfl rfl rfl rfl (by kernel_rfl) Try.func11 (by kernel_rfl)
    (of_decide_eq_true (by kernel_rfl)) (by unfold Func.isWrapper; first | (rw [if_pos (by decide +kernel)]; kernel_rfl) | (rw [if_neg (by decide +kernel)]; exact ⟨rfl, rfl⟩))
    (fun os started H enc _ => lifted os started H enc)
#print axioms over
end Go.Proofs.Ytalddeknbjfgcaa.fnExactDocText
namespace Go.Proofs.Ytalddeknbjfgcaa
/-- The row, under a short name, for the claim. -/
theorem fnExactDocText_holds : Rows.FnExactDocTextSaid := fnExactDocText.over
end Go.Proofs.Ytalddeknbjfgcaa
