/- The law FnExactIndexTerms: for every input it returns true, and each argument reads behind the call as before; no condition. -/
import Derived.Test.YtnjjdojonflckaaGreatDoorVPureFnExactIndexTerms
import Derived.WalkKit
import Derived.ProofKit
import Derived.OpenShut
import Derived.ShutString
import Derived.ChangeOld
import Derived.Below
import Derived.SizedLaws
import Derived.Lay
import Derived.MakeChecks
import Derived.Test.YtnjjdojonflckaaGreatDoorTie
import Derived.Test.YtnjjdojonflckaaGreatDoorCards
import Derived.Test.YtnjjdojonflckaaGreatDoorVLaidSTME
import Derived.LaidMore
import Derived.Stop.Joined
import Derived.SevenTiedAt
import Derived.Handed
import Derived.ChangeVars
namespace Go.Proofs.YtnjjdojonflckaaGreatDoor.fnExactIndexTerms
open Go.ChangeShapes Go.WideShapes Go.ChangeAt Go.RowKit Go.Proofs.YtnjjdojonflckaaGreatDoor.PFnExactIndexTerms Go.Proofs.YtnjjdojonflckaaGreatDoor.Opens Go.Proofs.YtnjjdojonflckaaGreatDoorW.PrintWords Go.Proofs.YtnjjdojonflckaaGreatDoorW.PrintLast Go.Proofs.YtnjjdojonflckaaGreatDoorW.PrintMore Go.Proofs.YtnjjdojonflckaaGreatDoor.Laid
open Go.ChangeMaps (open_string shut_string)
set_option linter.unusedVariables false
theorem own : ownKnob Tryz.prog.godebug = none := by kernel_rfl
theorem pH : laidOutB Tryz.prog = true := by kernel_rfl
theorem rS : Opens Tryz.prog 127 nm pJ :=
 by have h := Opens.iso (Opens.struct Tryz.underlying127 (Tail.cons (Opens.string Tryz.underlying9 (by kernel_rfl)) rfl (Tail.cons (Opens.int Tryz.underlying3 (by kernel_rfl)) rfl (Tail.one (Opens.int Tryz.underlying3 (by kernel_rfl)) rfl))) (by kernel_rfl)) (fun x : d8 => (x.f0, x.f1, x.f2)) (fun p => (⟨p.1, p.2.1, p.2.2⟩ : d8)) (fun _ => rfl); exact h
theorem rY : Opens Tryz.prog 200 iz pp :=
 by have h := Opens.iso (Opens.struct Tryz.underlying200 (Tail.cons (Opens.string Tryz.underlying9 (by kernel_rfl)) rfl (Tail.one (Opens.string Tryz.underlying9 (by kernel_rfl)) rfl)) (by kernel_rfl)) (fun x : dE => (x.f0, x.f1)) (fun p => (⟨p.1, p.2⟩ : dE)) (fun _ => rfl); exact h
theorem rD : Opens Tryz.prog 131 k131 pw :=
 by have h := Opens.iso (Opens.struct Tryz.underlying131 (Tail.cons (Opens.string Tryz.underlying9 (by kernel_rfl)) rfl (Tail.one (Opens.slice Tryz.underlying129 (by kernel_rfl) rY) rfl)) (by kernel_rfl)) (fun x : oo => (x.f0, x.f1)) (fun p => (⟨p.1, p.2⟩ : oo)) (fun _ => rfl); exact h
theorem rv : Opens Tryz.prog 133 n7 pI :=
 by have h := Opens.iso (Opens.struct Tryz.underlying133 (Tail.cons (Opens.int Tryz.underlying3 (by kernel_rfl)) rfl (Tail.one rD rfl)) (by kernel_rfl)) (fun x : dW => (x.f0, x.f1)) (fun p => (⟨p.1, p.2⟩ : dW)) (fun _ => rfl); exact h
theorem rx : Opens Tryz.prog 182 jW pB :=
 by have h := Opens.iso (Opens.struct Tryz.underlying182 (Tail.cons (Opens.int Tryz.underlying3 (by kernel_rfl)) rfl (Tail.one (Opens.slice Tryz.underlying39 (by kernel_rfl) (Opens.int Tryz.underlying3 (by kernel_rfl))) rfl)) (by kernel_rfl)) (fun x : dX => (x.f0, x.f1)) (fun p => (⟨p.1, p.2⟩ : dX)) (fun _ => rfl); exact h
theorem rV : Opens Tryz.prog 137 nF pc :=
 by have h := Opens.iso (Opens.struct Tryz.underlying137 (Tail.cons (Opens.string Tryz.underlying9 (by kernel_rfl)) rfl (Tail.cons (Opens.string Tryz.underlying9 (by kernel_rfl)) rfl (Tail.one (Opens.slice Tryz.underlying135 (by kernel_rfl) rx) rfl))) (by kernel_rfl)) (fun x : dV => (x.f0, x.f1, x.f2)) (fun p => (⟨p.1, p.2.1, p.2.2⟩ : dV)) (fun _ => rfl); exact h
abbrev pv : List (String × DataW Unit) := [("math/bits.deBruijn32tab", Rows.laid_math_bits_deBruijn32tab), ("math/bits.deBruijn64tab", Rows.laid_math_bits_deBruijn64tab), ("internal/strconv.uint64pow10", Rows.laid_internal_strconv_uint64pow10), ("unicode/utf8.acceptRanges", Rows.laid_unicode_utf8_acceptRanges), ("strconv.ErrRange", Rows.laid_strconv_ErrRange), ("strconv.ErrSyntax", Rows.laid_strconv_ErrSyntax), ("loop.example/spandrel/impl.stops", Rows.laid_loop_example_spandrel_impl_stops), ("unicode/utf8.first", Rows.laid_unicode_utf8_first)]
set_option maxRecDepth 100000 in
theorem lifted (os : Os) (started : os.Started) (H : Type) (enc : TypeId × Value → H) :
  ReturnsInHanded {} Tryz.checked os 8 .any (fun w args => (Rows.fnExactIndexTermsSpec.pre enc Tryz.prog Tryz.f8 [] false w args ∧ laidMetH Tryz.prog pv w) ∧ sizedMet enc Tryz.prog Tryz.f8 (OpenSpec.ofChange Rows.fnExactIndexTermsSpec) false w args) (Rows.fnExactIndexTermsSpec.post enc Tryz.prog Tryz.f8 false true false false) := by
 refine lP (C := Tryz.checked) (X := fun w _ => laidMetH Tryz.prog pv w) (fun _ _ _ hh h => h.of_heap hh) own started (by kernel_rfl) Tryz.func8
  (ChangeSpec.witness_shaped (enc := enc) (C := Tryz.checked) (os := os) (X := fun w _ => laidMetH Tryz.prog pv w) false (World.laidAll Tryz.prog os pv) #[.agg #[.slice none 0 0, .slice none 0 0, .slice none 0 0, .int .i64 0], .string ByteArray.empty, .string ByteArray.empty] 8 (World.laidAll_os _ _ _) (World.shaped_of_ZipB (by kernel_rfl) (by kernel_rfl)) (by kernel_rfl) (by kernel_rfl) (by kernel_rfl) (by rw [MakeChecks.laidMetH_plain _ _ _ (by kernel_rfl)]; exact laidMet_laidAll _ (by kernel_rfl) (by kernel_rfl))) ?_
 intro W base args ds gs before hSh hval0 hW hL; have hval : ∀ (j : Nat) t v, Tryz.f8.params[j]? = some t → args[j]? = some v → Value.okWide Tryz.prog W .any base t v := hval0; have hW' := hW; obtain ⟨p, q, hA0, hV, rfl, hfz, hnd⟩ := hW; have hA : DataW.TrodAll enc Tryz.prog W 0 (fun _ => true) true Tryz.f8.params.toList args.toList ds p := hA0; rw [Tryz.params8] at hA hval; obtain ⟨v0, vs0, d0, ds0, p0, q0, hargs, rfl, rfl, h0, r0⟩ := trodAll_cons hA; obtain ⟨v1, vs1, d1, ds1, p1, q1, rfl, rfl, rfl, h1, r1⟩ := trodAll_cons r0; obtain ⟨v2, vs2, d2, ds2, p2, q2, rfl, rfl, rfl, h2, r2⟩ := trodAll_cons r1; obtain ⟨rfl, rfl, rfl⟩ := trodAll_nil r2; obtain rfl : args = #[v0, v1, v2] := by cases args; simp_all
 obtain ⟨g1_, rfl⟩ : ∃ g1_, gs = [g1_] := by obtain ⟨_, _, _, _, d, _, e, _⟩ := trodVars_one hV; exact ⟨d, e⟩
 obtain ⟨cs0, rfl, hcs0⟩ := okWide_struct Tryz.underlying56 (hval 0 56 v0 rfl rfl); have k0_ := h0; have lt0 : ∀ x ∈ p0, x.block < W.heap.size := by obtain ⟨m, hm⟩ := k0_; exact DataW.trod_lt m _ _ _ hm
 obtain ⟨fuel0, hf0⟩ := h0; obtain ⟨⟨l0_0, ⟨l0_1, ⟨l0_2, a0_3⟩⟩⟩, hK0, ⟨g0_0, ⟨g0_1, ⟨g0_2, g0_3⟩⟩⟩⟩ := (Opens.struct Tryz.underlying56 (Tail.cons (Opens.slice Tryz.underlying52 (by kernel_rfl) rS) rfl (Tail.cons (Opens.slice Tryz.underlying53 (by kernel_rfl) rv) rfl (Tail.cons (Opens.slice Tryz.underlying54 (by kernel_rfl) rV) rfl (Tail.one (Opens.int Tryz.underlying3 (by kernel_rfl)) rfl)))) (by kernel_rfl)).op hf0; obtain ⟨C0, C0', eC0, ⟨B0_0, c0_0, rfl, hc0_0, hr0_0⟩, ⟨_, _, rfl, ⟨B0_1, c0_1, rfl, hc0_1, hr0_1⟩, ⟨_, _, rfl, ⟨B0_2, c0_2, rfl, hc0_2, hr0_2⟩, rfl⟩⟩⟩ := hK0; obtain rfl : cs0 = #[Value.slice B0_0 l0_0.length c0_0, Value.slice B0_1 l0_1.length c0_1, Value.slice B0_2 l0_2.length c0_2, Value.int .i64 a0_3] := by
  cases cs0 with
  | mk l => simpa [Value.cells] using eC0
 obtain ⟨a1, rfl, rfl, rfl, y1⟩ := open_string Tryz.underlying9 (hval 1 9 v1 rfl rfl) h1; obtain ⟨a2, rfl, rfl, rfl, y2⟩ := open_string Tryz.underlying9 (hval 2 9 v2 rfl rfl) h2; clear hA0 hval0; obtain ⟨k, hk⟩ := Pure.FnExactIndexTerms l0_0 l0_1 l0_2 a0_3 a1 a2 g0_0 g0_1 g0_2 g0_3 y1 y2; refine (bD.calls k _ _ l0_0 _ _ l0_1 _ _ l0_2 a0_3 a1 a2 true W (mB hSh hL) hr0_0 hc0_0 hr0_1 hc0_1 hr0_2 hc0_2 hk).mono fun e W' ⟨he, bel⟩ => ?_
 subst he; exact ⟨_, rfl, _, _, _, [], _, _, hW', trodAll_mk1 (shut_bool Tryz.underlying4 _), (trodAll_cons_mk (Below.trod pH (by kernel_rfl) (of_decide_eq_true (by kernel_rfl)) k0_ bel lt0) (trodAll_cons_mk (shut_string Tryz.underlying9 y1) (trodAll_cons_mk (shut_string Tryz.underlying9 y2) trodAll_mk0))), pP pH hV bel, bel.frame _, fun h => by cases h⟩
theorem over : Rows.fnExactIndexTermsRow.holds Tryz.pinned (OpenSpec.ofChange Rows.fnExactIndexTermsSpec) :=
 OpenClaim.holds_of_wide 8 Tryz.f8 rfl rfl rfl rfl rfl rfl rfl ⟨rfl, rfl, rfl, rfl, rfl⟩ rfl rfl rfl rfl rfl (by kernel_rfl) Tryz.func8 (by kernel_rfl)
  (of_decide_eq_true (by kernel_rfl)) (by unfold Func.isWrapper; first | (rw [if_pos (by decide +kernel)]; kernel_rfl) | (rw [if_neg (by decide +kernel)]; exact ⟨rfl, rfl⟩))
  (fun os started H enc _ => lifted os started H enc)
#print axioms over
end Go.Proofs.YtnjjdojonflckaaGreatDoor.fnExactIndexTerms
namespace Go.Proofs.YtnjjdojonflckaaGreatDoor
theorem fnExactIndexTerms_holds : Rows.FnExactIndexTermsCardSaid :=
 Claim7.holds_tied_plain_at .later [] [.data, .data, .data, .data, .sentinel, .sentinel, .widerDeep, .pinned] true (true, "1dd9329d749ef49d12fd328c2a814219f8792b9363edf2cf2d355fc22d690408") true
  fnExactIndexTerms.over (fun _ h => by cases h) (by kernel_rfl) (fun _ h => by cases h) fnExactIndexTerms_row_tie rfl ⟨rfl, rfl⟩ (by kernel_rfl) rfl
  (fun f fn hf hfn => by
   obtain rfl : f = 8 := Option.some.inj ((show Tryz.prog.funcNamed "loop.example/spandrel/laws.FnExactIndexTerms" = some 8 by kernel_rfl).symm.trans hf) |>.symm
   obtain rfl : fn = Tryz.f8 := (Option.some.inj (Tryz.func8.symm.trans hfn)).symm; exact ⟨by kernel_rfl, fun j t ht => by
    rw [Tryz.params8] at ht; have hm : t ∈ [56, 9, 9] := by simpa using Array.mem_of_getElem? ht
    have hall : ([56, 9, 9].all fun u => !Tryz.prog.wantsStandIn u) = true := by kernel_rfl
    exact (show Tryz.prog.wantsStandIn t = false by simpa using List.all_eq_true.1 hall t hm)⟩)
  (by kernel_rfl)
#print axioms fnExactIndexTerms_holds
end Go.Proofs.YtnjjdojonflckaaGreatDoor
