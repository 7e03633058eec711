/- The law FnExactTermOk: for every input it returns true, and each argument reads behind the call as before; no condition. -/
import Derived.Test.YtifenfjjekpflaaDoorRows
import Derived.Test.YtifenfjjekpflaaDoorPFnExactTermOkx3
import Derived.Test.YtifenfjjekpflaaDoorSFnExactTermOk
import Derived.Test.YtifenfjjekpflaaDoorPureFnExactTermOk
import Derived.WalkKit
import Derived.ProofKit
import Derived.OpenShut
import Derived.ShutString
import Derived.ChangeOld
import Derived.Below
import Derived.SizedLaws
import Derived.Test.YtifenfjjekpflaaDoorTie
import Derived.Test.YtifenfjjekpflaaDoorCards
import Derived.Test.YtifenfjjekpflaaDoorLaidStops
import Derived.LaidMore
import Derived.Stop.Joined
import Derived.SevenTiedAt
import Derived.Handed
import Derived.ChangeVars
namespace Go.Proofs.YtifenfjjekpflaaDoor.fnExactTermOk
open Go.ChangeShapes Go.WideShapes Go.ChangeAt Go.RowKit Go.Proofs.YtifenfjjekpflaaDoor.PFnExactTermOk Go.Proofs.YtifenfjjekpflaaDoor.Opens Go.Proofs.YtifenfjjekpflaaDoorW.PrintWords Go.Proofs.YtifenfjjekpflaaDoorW.PrintLast Go.Proofs.YtifenfjjekpflaaDoorW.PrintMore Go.Proofs.YtifenfjjekpflaaDoor.Laid
open Go.ChangeMaps (open_string shut_string)
set_option linter.unusedVariables false
theorem own : ownKnob Tryd.prog.godebug = none := by kernel_rfl
theorem laidOut : laidOutB Tryd.prog = true := by kernel_rfl
abbrev laidL : List (String × DataW Unit) := [("loop.example/spandrel/impl.stops", Rows.laid_loop_example_spandrel_impl_stops)]
set_option maxRecDepth 100000 in
theorem lifted (os : Os) (started : os.Started) (H : Type) (enc : TypeId × Value → H) :
    ReturnsInHanded {} Tryd.checked os 4 .any (fun w args => (Rows.fnExactTermOkSpec.pre enc Tryd.prog Tryd.f4 [] false w args ∧ laidMetH Tryd.prog laidL w) ∧ sizedMet enc Tryd.prog Tryd.f4 (OpenSpec.ofChange Rows.fnExactTermOkSpec) false w args) (Rows.fnExactTermOkSpec.post enc Tryd.prog Tryd.f4 false true false false) := by
  refine returnsInHanded_of_change_and (C := Tryd.checked) (X := fun w _ => laidMetH Tryd.prog laidL w) (fun _ _ _ hh h => h.of_heap hh) own started (by kernel_rfl) Tryd.func4
    (ChangeSpec.witness_shaped (enc := enc) (C := Tryd.checked) (os := os) (X := fun w _ => laidMetH Tryd.prog laidL w) false (World.doorLaid Tryd.prog 400 os) #[.string ByteArray.empty] 8 rfl (World.shaped_of_RefB (by kernel_rfl) (by kernel_rfl)) (by kernel_rfl) (by kernel_rfl) (by kernel_rfl) (door_met os _)) ?_
  intro W base args ds gs before hval0 hW _ _ hL _
  have hval : ∀ (j : Nat) t v, Tryd.f4.params[j]? = some t → args[j]? = some v → Value.okWide Tryd.prog W .any base t v := hval0
  have hW' := hW
  obtain ⟨p, q, hA0, hV, rfl, hfz, hnd⟩ := hW
  have hA : DataW.TrodAll enc Tryd.prog W 0 (fun _ => true) true Tryd.f4.params.toList args.toList ds p := hA0
  rw [Tryd.params4] at hA hval
  obtain ⟨v0, vs0, d0, ds0, p0, q0, hargs, rfl, rfl, h0, r0⟩ := trodAll_cons hA
  obtain ⟨rfl, rfl, rfl⟩ := trodAll_nil r0
  obtain rfl : args = #[v0] := by cases args; simp_all
  obtain ⟨g1_, rfl⟩ : ∃ g1_, gs = [g1_] := by obtain ⟨_, _, _, _, d, _, e, _⟩ := trodVars_one hV; exact ⟨d, e⟩
  obtain ⟨a0, rfl, rfl, rfl, y0⟩ := open_string Tryd.underlying9 (hval 0 9 v0 rfl rfl) h0
  clear hA0 hval0
  obtain ⟨k, hk⟩ := Pure.FnExactTermOk a0 y0
  refine (laws_FnExactTermOk.calls k a0 true W (glob_of_laid hL)  hk).mono fun e W' ⟨he, bel⟩ => ?_
  subst he
  exact ⟨_, rfl, _, _, _, [], _, _, hW', trodAll_mk1 (shut_bool Tryd.underlying4 _), (trodAll_cons_mk (shut_string Tryd.underlying9 y0) trodAll_mk0), vars_back laidOut hV bel, bel.frame _, fun h => by cases h⟩
theorem over : Rows.fnExactTermOkRow.holds Tryd.pinned (OpenSpec.ofChange Rows.fnExactTermOkSpec) :=
  OpenClaim.holds_of_wide 4 Tryd.f4 rfl rfl rfl rfl rfl rfl rfl ⟨rfl, rfl, rfl, rfl, rfl⟩ rfl rfl rfl rfl rfl (by kernel_rfl) Tryd.func4 (by kernel_rfl)
    (of_decide_eq_true (by kernel_rfl)) (by unfold Func.isWrapper; first | (rw [if_pos (by decide +kernel)]; kernel_rfl) | (rw [if_neg (by decide +kernel)]; exact ⟨rfl, rfl⟩))
    (fun os started H enc _ => lifted os started H enc)
#print axioms over
end Go.Proofs.YtifenfjjekpflaaDoor.fnExactTermOk
namespace Go.Proofs.YtifenfjjekpflaaDoor
/-- The card: the row, and what it lists tied to the program's text. -/
theorem fnExactTermOk_holds : Rows.FnExactTermOkCardSaid :=
  Claim7.holds_tied_plain_at .later [] [.widerDeep] true (true, "03f4fe2226e141fe91a1b1f6ddf15c3c6fb825d0f1dadfb90c2be92f8c158de0") false
    fnExactTermOk.over (fun _ h => by cases h) (by kernel_rfl) (fun _ h => by cases h) fnExactTermOk_row_tie rfl ⟨rfl, rfl⟩ (by kernel_rfl) rfl
    (fun f fn hf hfn => by
      obtain rfl : f = 4 := Option.some.inj ((show Tryd.prog.funcNamed "loop.example/spandrel/laws.FnExactTermOk" = some 4 by kernel_rfl).symm.trans hf) |>.symm
      obtain rfl : fn = Tryd.f4 := (Option.some.inj (Tryd.func4.symm.trans hfn)).symm
      exact ⟨by kernel_rfl, fun j t ht => by
        rw [Tryd.params4] at ht
        have hm : t ∈ [9] := by simpa using Array.mem_of_getElem? ht
        have hall : ([9].all fun u => !Tryd.prog.wantsStandIn u) = true := by kernel_rfl
        exact (show Tryd.prog.wantsStandIn t = false by simpa using List.all_eq_true.1 hall t hm)⟩)
    (by kernel_rfl)
#print axioms fnExactTermOk_holds
end Go.Proofs.YtifenfjjekpflaaDoor
