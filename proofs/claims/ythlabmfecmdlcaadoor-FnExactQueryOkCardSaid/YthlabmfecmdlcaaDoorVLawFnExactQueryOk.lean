/- The law FnExactQueryOk: for every input it returns true, and each argument reads behind the call as before; no condition. -/
import Derived.Test.YthlabmfecmdlcaaDoorRows
import Derived.Test.YthlabmfecmdlcaaDoorVPFnExactQueryOkx10
import Derived.Test.YthlabmfecmdlcaaDoorVSFnExactQueryOk
import Derived.Test.YthlabmfecmdlcaaDoorVPureFnExactQueryOk
import Derived.WalkKit
import Derived.ProofKit
import Derived.OpenShut
import Derived.ShutString
import Derived.ChangeOld
import Derived.Below
import Derived.SizedLaws
import Derived.Lay
import Derived.MakeChecks
import Derived.Test.YthlabmfecmdlcaaDoorTie
import Derived.Test.YthlabmfecmdlcaaDoorCards
import Derived.Test.YthlabmfecmdlcaaDoorVLaidSM
import Derived.LaidMore
import Derived.Stop.Joined
import Derived.SevenTiedAt
import Derived.Handed
import Derived.ChangeVars
namespace Go.Proofs.YthlabmfecmdlcaaDoor.fnExactQueryOk
open Go.ChangeShapes Go.WideShapes Go.ChangeAt Go.RowKit Go.Proofs.YthlabmfecmdlcaaDoor.PFnExactQueryOk Go.Proofs.YthlabmfecmdlcaaDoor.Opens Go.Proofs.YthlabmfecmdlcaaDoorW.PrintWords Go.Proofs.YthlabmfecmdlcaaDoorW.PrintLast Go.Proofs.YthlabmfecmdlcaaDoorW.PrintMore Go.Proofs.YthlabmfecmdlcaaDoor.Laid
open Go.ChangeMaps (open_string shut_string)
set_option linter.unusedVariables false
theorem own : ownKnob Tryd.prog.godebug = none := by kernel_rfl
theorem laidOut : laidOutB Tryd.prog = true := by kernel_rfl
theorem opensF24 : ∀ N, OpensF N Tryd.prog 24 k24 good24
  | 0 => ⟨by kernel_rfl, fun {H enc W spare held fuel cs x} h0 hx => by obtain ⟨_, n, hn, _⟩ := DataW.trod_struct Tryd.underlying24 hx; omega⟩
  | N + 1 => by
    have ih := opensF24 N
    have hs := OpensF.struct Tryd.underlying24 (TailF.cons (OpensF.of (Opens.int Tryd.underlying3 (by kernel_rfl))) rfl (TailF.cons (OpensF.of (Opens.string Tryd.underlying9 (by kernel_rfl))) rfl (TailF.cons (OpensF.of (Opens.string Tryd.underlying9 (by kernel_rfl))) rfl (TailF.cons (OpensF.of (Opens.int Tryd.underlying3 (by kernel_rfl))) rfl (TailF.cons (OpensF.of (Opens.int Tryd.underlying3 (by kernel_rfl))) rfl (TailF.one (OpensF.slice Tryd.underlying22 (by kernel_rfl) ih) rfl)))))) (by kernel_rfl)
    refine ⟨by kernel_rfl, fun {H enc W spare held fuel cs x} hf hx => ?_⟩
    obtain ⟨⟨b0, b1, b2, b3, b4, b5⟩, hK, ⟨g0, g1, g2, g3, g4, g5⟩⟩ := hs.op hf hx
    obtain ⟨_, _, rfl, rfl, ⟨_, _, rfl, rfl, ⟨_, _, rfl, rfl, ⟨_, _, rfl, rfl, ⟨_, _, rfl, rfl, ⟨A5, c5, rfl, l5, q5⟩⟩⟩⟩⟩⟩ := hK
    exact ⟨⟨b0, b1, b2, b3, b4, b5⟩, k24_mk W _ l5 q5, good24.mk _ g0 g1 g2 g3 g4 g5.1 g5.2⟩
theorem opens24 : Opens Tryd.prog 24 k24 good24 := ⟨by kernel_rfl, fun {H enc W spare held fuel cs x} hx => (opensF24 fuel).op (Nat.le_refl _) hx⟩
abbrev laidL : List (String × DataW Unit) := [("unicode/utf8.acceptRanges", Rows.laid_unicode_utf8_acceptRanges), ("loop.example/spandrel/impl.stops", Rows.laid_loop_example_spandrel_impl_stops), ("unicode/utf8.first", Rows.laid_unicode_utf8_first)]
set_option maxRecDepth 100000 in
theorem lifted (os : Os) (started : os.Started) (H : Type) (enc : TypeId × Value → H) :
    ReturnsInHanded {} Tryd.checked os 3 .any (fun w args => (Rows.fnExactQueryOkSpec.pre enc Tryd.prog Tryd.f3 [] false w args ∧ laidMetH Tryd.prog laidL w) ∧ sizedMet enc Tryd.prog Tryd.f3 (OpenSpec.ofChange Rows.fnExactQueryOkSpec) false w args) (Rows.fnExactQueryOkSpec.post enc Tryd.prog Tryd.f3 false true false false) := by
  refine handed_shaped (C := Tryd.checked) (X := fun w _ => laidMetH Tryd.prog laidL w) (fun _ _ _ hh h => h.of_heap hh) own started (by kernel_rfl) Tryd.func3
    (ChangeSpec.witness_shaped (enc := enc) (C := Tryd.checked) (os := os) (X := fun w _ => laidMetH Tryd.prog laidL w) false (World.laidAll Tryd.prog os laidL) #[.agg #[.int .i64 0, .string ByteArray.empty, .string ByteArray.empty, .int .i64 0, .int .i64 0, .slice none 0 0]] 8 (World.laidAll_os _ _ _) (World.shaped_of_ZipB (by kernel_rfl) (by kernel_rfl)) (by kernel_rfl) (by kernel_rfl) (by kernel_rfl) (by rw [MakeChecks.laidMetH_plain _ _ _ (by kernel_rfl)]; exact laidMet_laidAll _ (by kernel_rfl) (by kernel_rfl))) ?_
  intro W base args ds gs before hSh hval0 hW hL
  have hval : ∀ (j : Nat) t v, Tryd.f3.params[j]? = some t → args[j]? = some v → Value.okWide Tryd.prog W .any base t v := hval0
  have hW' := hW
  obtain ⟨p, q, hA0, hV, rfl, hfz, hnd⟩ := hW
  have hA : DataW.TrodAll enc Tryd.prog W 0 (fun _ => true) true Tryd.f3.params.toList args.toList ds p := hA0
  rw [Tryd.params3] at hA hval
  obtain ⟨v0, vs0, d0, ds0, p0, q0, hargs, rfl, rfl, h0, r0⟩ := trodAll_cons hA
  obtain ⟨rfl, rfl, rfl⟩ := trodAll_nil r0
  obtain rfl : args = #[v0] := by cases args; simp_all
  obtain ⟨g1_, rfl⟩ : ∃ g1_, gs = [g1_] := by obtain ⟨_, _, _, _, d, _, e, _⟩ := trodVars_one hV; exact ⟨d, e⟩
  obtain ⟨cs0, rfl, hcs0⟩ := okWide_struct Tryd.underlying24 (hval 0 24 v0 rfl rfl)
  have k0_ := h0
  have lt0 : ∀ x ∈ p0, x.block < W.heap.size := by obtain ⟨m, hm⟩ := k0_; exact DataW.trod_lt m _ _ _ hm
  obtain ⟨fuel0, hf0⟩ := h0
  obtain ⟨⟨a0_0, ⟨a0_1, ⟨a0_2, ⟨a0_3, ⟨a0_4, l0_5⟩⟩⟩⟩⟩, hK0, ⟨g0_0, ⟨g0_1, ⟨g0_2, ⟨g0_3, ⟨g0_4, g0_5⟩⟩⟩⟩⟩⟩ := (Opens.struct Tryd.underlying24 (Tail.cons (Opens.int Tryd.underlying3 (by kernel_rfl)) rfl (Tail.cons (Opens.string Tryd.underlying9 (by kernel_rfl)) rfl (Tail.cons (Opens.string Tryd.underlying9 (by kernel_rfl)) rfl (Tail.cons (Opens.int Tryd.underlying3 (by kernel_rfl)) rfl (Tail.cons (Opens.int Tryd.underlying3 (by kernel_rfl)) rfl (Tail.one (Opens.slice Tryd.underlying22 (by kernel_rfl) opens24) rfl)))))) (by kernel_rfl)).op hf0
  obtain ⟨C0, C0', eC0, rfl, ⟨_, _, rfl, rfl, ⟨_, _, rfl, rfl, ⟨_, _, rfl, rfl, ⟨_, _, rfl, rfl, ⟨B0_5, c0_5, rfl, hc0_5, hr0_5⟩⟩⟩⟩⟩⟩ := hK0
  obtain rfl : cs0 = #[Value.int .i64 a0_0, Value.string a0_1, Value.string a0_2, Value.int .i64 a0_3, Value.int .i64 a0_4, Value.slice B0_5 l0_5.length c0_5] := by
    cases cs0 with
    | mk l => simpa [Value.cells] using eC0
  clear hA0 hval0
  obtain ⟨k, hk⟩ := Pure.FnExactQueryOk a0_0 a0_1 a0_2 a0_3 a0_4 l0_5 g0_0 g0_1 g0_2 g0_3 g0_4 g0_5
  refine (laws_FnExactQueryOk.calls k a0_0 a0_1 a0_2 a0_3 a0_4 _ _ l0_5 true W (glob_of_laid hSh hL) hr0_5 hc0_5 hk).mono fun e W' ⟨he, bel⟩ => ?_
  subst he
  exact ⟨_, rfl, _, _, _, [], _, _, hW', trodAll_mk1 (shut_bool Tryd.underlying4 _), (trodAll_cons_mk (Below.trod laidOut (by kernel_rfl) (of_decide_eq_true (by kernel_rfl)) k0_ bel lt0) trodAll_mk0), vars_back laidOut hV bel, bel.frame _, fun h => by cases h⟩
theorem over : Rows.fnExactQueryOkRow.holds Tryd.pinned (OpenSpec.ofChange Rows.fnExactQueryOkSpec) :=
  OpenClaim.holds_of_wide 3 Tryd.f3 rfl rfl rfl rfl rfl rfl rfl ⟨rfl, rfl, rfl, rfl, rfl⟩ rfl rfl rfl rfl rfl (by kernel_rfl) Tryd.func3 (by kernel_rfl)
    (of_decide_eq_true (by kernel_rfl)) (by unfold Func.isWrapper; first | (rw [if_pos (by decide +kernel)]; kernel_rfl) | (rw [if_neg (by decide +kernel)]; exact ⟨rfl, rfl⟩))
    (fun os started H enc _ => lifted os started H enc)
#print axioms over
end Go.Proofs.YthlabmfecmdlcaaDoor.fnExactQueryOk
namespace Go.Proofs.YthlabmfecmdlcaaDoor
/-- The card: the row, and what it lists tied to the program's text. -/
theorem fnExactQueryOk_holds : Rows.FnExactQueryOkCardSaid :=
  Claim7.holds_tied_plain_at .later [] [.data, .widerDeep, .pinned] true (true, "969d62abcbef3791f343fb23e43bee67b4170c3163aa9109c03981b8a49029ca") false
    fnExactQueryOk.over (fun _ h => by cases h) (by kernel_rfl) (fun _ h => by cases h) fnExactQueryOk_row_tie rfl ⟨rfl, rfl⟩ (by kernel_rfl) rfl
    (fun f fn hf hfn => by
      obtain rfl : f = 3 := Option.some.inj ((show Tryd.prog.funcNamed "loop.example/spandrel/laws.FnExactQueryOk" = some 3 by kernel_rfl).symm.trans hf) |>.symm
      obtain rfl : fn = Tryd.f3 := (Option.some.inj (Tryd.func3.symm.trans hfn)).symm
      exact ⟨by kernel_rfl, fun j t ht => by
        rw [Tryd.params3] at ht
        have hm : t ∈ [24] := by simpa using Array.mem_of_getElem? ht
        have hall : ([24].all fun u => !Tryd.prog.wantsStandIn u) = true := by kernel_rfl
        exact (show Tryd.prog.wantsStandIn t = false by simpa using List.all_eq_true.1 hall t hm)⟩)
    (by kernel_rfl)
#print axioms fnExactQueryOk_holds
end Go.Proofs.YthlabmfecmdlcaaDoor
