/- The law FnExactDocTags: for every input it returns true, and each argument reads behind the call as before; no condition. -/
import Derived.Test.YtelcdhjdlgedeaaGreatDoorRows
import Derived.Test.YtelcdhjdlgedeaaGreatDoorVPFnExactDocTagsx13
import Derived.Test.YtelcdhjdlgedeaaGreatDoorVSFnExactDocTags
import Derived.Test.YtelcdhjdlgedeaaGreatDoorVPureFnExactDocTags
import Derived.WalkKit
import Derived.ProofKit
import Derived.OpenShut
import Derived.ShutString
import Derived.ChangeOld
import Derived.Below
import Derived.SizedLaws
import Derived.Lay
import Derived.MakeChecks
import Derived.Test.YtelcdhjdlgedeaaGreatDoorTie
import Derived.Test.YtelcdhjdlgedeaaGreatDoorCards
import Derived.Test.YtelcdhjdlgedeaaGreatDoorVLaidTME
import Derived.LaidMore
import Derived.Stop.Joined
import Derived.SevenTiedAt
import Derived.Handed
import Derived.ChangeVars
namespace Go.Proofs.YtelcdhjdlgedeaaGreatDoor.fnExactDocTags
open Go.ChangeShapes Go.WideShapes Go.ChangeAt Go.RowKit Go.Proofs.YtelcdhjdlgedeaaGreatDoor.PFnExactDocTags Go.Proofs.YtelcdhjdlgedeaaGreatDoor.Opens Go.Proofs.YtelcdhjdlgedeaaGreatDoorW.PrintWords Go.Proofs.YtelcdhjdlgedeaaGreatDoorW.PrintLast Go.Proofs.YtelcdhjdlgedeaaGreatDoorW.PrintMore Go.Proofs.YtelcdhjdlgedeaaGreatDoor.Laid
open Go.ChangeMaps (open_string shut_string)
set_option linter.unusedVariables false
theorem own : ownKnob Tryz.prog.godebug = none := by kernel_rfl
theorem laidOut : laidOutB Tryz.prog = true := by kernel_rfl
theorem opens72 : Opens Tryz.prog 72 k72 good72 :=
  by have h := Opens.iso (Opens.struct Tryz.underlying72 (Tail.cons (Opens.string Tryz.underlying9 (by kernel_rfl)) rfl (Tail.cons (Opens.int Tryz.underlying3 (by kernel_rfl)) rfl (Tail.one (Opens.int Tryz.underlying3 (by kernel_rfl)) rfl))) (by kernel_rfl)) (fun x : S72 => (x.f0, x.f1, x.f2)) (fun p => (⟨p.1, p.2.1, p.2.2⟩ : S72)) (fun _ => rfl); exact h
theorem opens117 : Opens Tryz.prog 117 k117 good117 :=
  by have h := Opens.iso (Opens.struct Tryz.underlying117 (Tail.cons (Opens.string Tryz.underlying9 (by kernel_rfl)) rfl (Tail.one (Opens.string Tryz.underlying9 (by kernel_rfl)) rfl)) (by kernel_rfl)) (fun x : S117 => (x.f0, x.f1)) (fun p => (⟨p.1, p.2⟩ : S117)) (fun _ => rfl); exact h
abbrev laidL : List (String × DataW Unit) := [("math/bits.deBruijn32tab", Rows.laid_math_bits_deBruijn32tab), ("math/bits.deBruijn64tab", Rows.laid_math_bits_deBruijn64tab), ("internal/strconv.uint64pow10", Rows.laid_internal_strconv_uint64pow10), ("unicode/utf8.acceptRanges", Rows.laid_unicode_utf8_acceptRanges), ("strconv.ErrRange", Rows.laid_strconv_ErrRange), ("strconv.ErrSyntax", Rows.laid_strconv_ErrSyntax), ("unicode/utf8.first", Rows.laid_unicode_utf8_first)]
set_option maxRecDepth 100000 in
theorem lifted (os : Os) (started : os.Started) (H : Type) (enc : TypeId × Value → H) :
    ReturnsInHanded {} Tryz.checked os 4 .any (fun w args => (Rows.fnExactDocTagsSpec.pre enc Tryz.prog Tryz.f4 [] false w args ∧ laidMetH Tryz.prog laidL w) ∧ sizedMet enc Tryz.prog Tryz.f4 (OpenSpec.ofChange Rows.fnExactDocTagsSpec) false w args) (Rows.fnExactDocTagsSpec.post enc Tryz.prog Tryz.f4 false true false false) := by
  refine handed_shaped (C := Tryz.checked) (X := fun w _ => laidMetH Tryz.prog laidL w) (fun _ _ _ hh h => h.of_heap hh) own started (by kernel_rfl) Tryz.func4
    (ChangeSpec.witness_shaped (enc := enc) (C := Tryz.checked) (os := os) (X := fun w _ => laidMetH Tryz.prog laidL w) false (World.laidAll Tryz.prog os laidL) #[.slice none 0 0, .agg #[.string ByteArray.empty, .slice none 0 0], .string ByteArray.empty] 8 (World.laidAll_os _ _ _) (World.shaped_of_ZipB (by kernel_rfl) (by kernel_rfl)) (by kernel_rfl) (by kernel_rfl) (by kernel_rfl) (by rw [MakeChecks.laidMetH_plain _ _ _ (by kernel_rfl)]; exact laidMet_laidAll _ (by kernel_rfl) (by kernel_rfl))) ?_
  intro W base args ds gs before hSh hval0 hW hL
  have hval : ∀ (j : Nat) t v, Tryz.f4.params[j]? = some t → args[j]? = some v → Value.okWide Tryz.prog W .any base t v := hval0
  have hW' := hW
  obtain ⟨p, q, hA0, hV, rfl, hfz, hnd⟩ := hW
  have hA : DataW.TrodAll enc Tryz.prog W 0 (fun _ => true) true Tryz.f4.params.toList args.toList ds p := hA0
  rw [Tryz.params4] at hA hval
  obtain ⟨v0, vs0, d0, ds0, p0, q0, hargs, rfl, rfl, h0, r0⟩ := trodAll_cons hA
  obtain ⟨v1, vs1, d1, ds1, p1, q1, rfl, rfl, rfl, h1, r1⟩ := trodAll_cons r0
  obtain ⟨v2, vs2, d2, ds2, p2, q2, rfl, rfl, rfl, h2, r2⟩ := trodAll_cons r1
  obtain ⟨rfl, rfl, rfl⟩ := trodAll_nil r2
  obtain rfl : args = #[v0, v1, v2] := by cases args; simp_all
  obtain ⟨rfl, rfl⟩ := trodVars_none hV
  obtain ⟨A0, len0, cap0, rfl⟩ := okWide_slice Tryz.underlying34 (hval 0 34 v0 rfl rfl)
  have k0_ := h0
  have lt0 : ∀ x ∈ p0, x.block < W.heap.size := by obtain ⟨m, hm⟩ := k0_; exact DataW.trod_lt m _ _ _ hm
  obtain ⟨fuel0, hf0⟩ := h0
  obtain ⟨l0, ⟨B0, c0, e0, hc0, hr0⟩, g0⟩ := (Opens.slice Tryz.underlying34 (by kernel_rfl) opens72).op hf0
  simp only [Value.cells, List.cons.injEq, Value.slice.injEq, and_true] at e0
  obtain ⟨rfl, rfl, rfl⟩ := e0
  obtain ⟨cs1, rfl, hcs1⟩ := okWide_struct Tryz.underlying37 (hval 1 37 v1 rfl rfl)
  have k1_ := h1
  have lt1 : ∀ x ∈ p1, x.block < W.heap.size := by obtain ⟨m, hm⟩ := k1_; exact DataW.trod_lt m _ _ _ hm
  obtain ⟨fuel1, hf1⟩ := h1
  obtain ⟨⟨a1_0, l1_1⟩, hK1, ⟨g1_0, g1_1⟩⟩ := (Opens.struct Tryz.underlying37 (Tail.cons (Opens.string Tryz.underlying9 (by kernel_rfl)) rfl (Tail.one (Opens.slice Tryz.underlying35 (by kernel_rfl) opens117) rfl)) (by kernel_rfl)).op hf1
  obtain ⟨C1, C1', eC1, rfl, ⟨B1_1, c1_1, rfl, hc1_1, hr1_1⟩⟩ := hK1
  obtain rfl : cs1 = #[Value.string a1_0, Value.slice B1_1 l1_1.length c1_1] := by
    cases cs1 with
    | mk l => simpa [Value.cells] using eC1
  obtain ⟨a2, rfl, rfl, rfl, y2⟩ := open_string Tryz.underlying9 (hval 2 9 v2 rfl rfl) h2
  clear hA0 hval0
  obtain ⟨k, hk⟩ := Pure.FnExactDocTags l0 a1_0 l1_1 a2 g0 g1_0 g1_1 y2
  refine (laws_FnExactDocTags.calls k _ _ l0 a1_0 _ _ l1_1 a2 true W (glob_of_laid hSh hL) hr0 hc0 hr1_1 hc1_1 hk).mono fun e W' ⟨he, bel⟩ => ?_
  subst he
  exact ⟨_, rfl, _, _, _, [], _, [], hW', trodAll_mk1 (shut_bool Tryz.underlying4 _), (trodAll_cons_mk (Below.trod laidOut (by kernel_rfl) (of_decide_eq_true (by kernel_rfl)) k0_ bel lt0) (trodAll_cons_mk (Below.trod laidOut (by kernel_rfl) (of_decide_eq_true (by kernel_rfl)) k1_ bel lt1) (trodAll_cons_mk (shut_string Tryz.underlying9 y2) trodAll_mk0))), rfl, bel.frame _, fun h => by cases h⟩
theorem over : Rows.fnExactDocTagsRow.holds Tryz.pinned (OpenSpec.ofChange Rows.fnExactDocTagsSpec) :=
  OpenClaim.holds_of_wide 4 Tryz.f4 rfl rfl rfl rfl rfl rfl rfl ⟨rfl, rfl, rfl, rfl, rfl⟩ rfl rfl rfl rfl rfl (by kernel_rfl) Tryz.func4 (by kernel_rfl)
    (of_decide_eq_true (by kernel_rfl)) (by unfold Func.isWrapper; first | (rw [if_pos (by decide +kernel)]; kernel_rfl) | (rw [if_neg (by decide +kernel)]; exact ⟨rfl, rfl⟩))
    (fun os started H enc _ => lifted os started H enc)
#print axioms over
end Go.Proofs.YtelcdhjdlgedeaaGreatDoor.fnExactDocTags
namespace Go.Proofs.YtelcdhjdlgedeaaGreatDoor
/-- The card: the row, and what it lists tied to the program's text. -/
theorem fnExactDocTags_holds : Rows.FnExactDocTagsCardSaid :=
  Claim7.holds_tied_plain_at .later [] [.data, .data, .data, .data, .sentinel, .sentinel, .pinned] true (true, "78066e7692db81647fafdbcb28504597a2c19a7948a0d84278bc228febefbc99") true
    fnExactDocTags.over (fun _ h => by cases h) (by kernel_rfl) (fun _ h => by cases h) fnExactDocTags_row_tie rfl ⟨rfl, rfl⟩ (by kernel_rfl) rfl
    (fun f fn hf hfn => by
      obtain rfl : f = 4 := Option.some.inj ((show Tryz.prog.funcNamed "loop.example/spandrel/laws.FnExactDocTags" = some 4 by kernel_rfl).symm.trans hf) |>.symm
      obtain rfl : fn = Tryz.f4 := (Option.some.inj (Tryz.func4.symm.trans hfn)).symm
      exact ⟨by kernel_rfl, fun j t ht => by
        rw [Tryz.params4] at ht
        have hm : t ∈ [34, 37, 9] := by simpa using Array.mem_of_getElem? ht
        have hall : ([34, 37, 9].all fun u => !Tryz.prog.wantsStandIn u) = true := by kernel_rfl
        exact (show Tryz.prog.wantsStandIn t = false by simpa using List.all_eq_true.1 hall t hm)⟩)
    (by kernel_rfl)
#print axioms fnExactDocTags_holds
end Go.Proofs.YtelcdhjdlgedeaaGreatDoor
