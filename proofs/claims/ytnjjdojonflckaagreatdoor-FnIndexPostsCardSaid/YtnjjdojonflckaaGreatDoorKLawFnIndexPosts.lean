/- The law FnIndexPosts: for every input it returns true, and each argument reads behind the call as before; no condition. -/
import Derived.Test.YtnjjdojonflckaaGreatDoorKPureFnIndexPosts
import Derived.WalkKit
import Derived.ProofKit
import Derived.OpenShut
import Derived.ShutString
import Derived.ChangeOld
import Derived.Below
import Derived.SizedLaws
import Derived.Lay
import Derived.MakeChecks
import Derived.Test.YtnjjdojonflckaaGreatDoorTie
import Derived.Test.YtnjjdojonflckaaGreatDoorCards
import Derived.Test.YtnjjdojonflckaaGreatDoorKLaidSTME
import Derived.LaidMore
import Derived.Stop.Joined
import Derived.SevenTiedAt
import Derived.Handed
import Derived.ChangeVars
namespace Go.Proofs.YtnjjdojonflckaaGreatDoor.fnIndexPosts
open Go.ChangeShapes Go.WideShapes Go.ChangeAt Go.RowKit Go.Proofs.YtnjjdojonflckaaGreatDoor.PFnIndexPosts Go.Proofs.YtnjjdojonflckaaGreatDoor.Opens Go.Proofs.YtnjjdojonflckaaGreatDoorW.PrintWords Go.Proofs.YtnjjdojonflckaaGreatDoorW.PrintLast Go.Proofs.YtnjjdojonflckaaGreatDoorW.PrintMore Go.Proofs.YtnjjdojonflckaaGreatDoor.Laid
open Go.ChangeMaps (open_string shut_string)
set_option linter.unusedVariables false
theorem own:ownKnob Tryz.prog.godebug=none:=by kernel_rfl
theorem qA:laidOutB Tryz.prog=true:=by kernel_rfl
abbrev qK : List (String × DataW Unit) := [("math/bits.deBruijn32tab", Rows.laid_math_bits_deBruijn32tab), ("math/bits.deBruijn64tab", Rows.laid_math_bits_deBruijn64tab), ("internal/strconv.uint64pow10", Rows.laid_internal_strconv_uint64pow10), ("unicode/utf8.acceptRanges", Rows.laid_unicode_utf8_acceptRanges), ("strconv.ErrRange", Rows.laid_strconv_ErrRange), ("strconv.ErrSyntax", Rows.laid_strconv_ErrSyntax), ("loop.example/spandrel/impl.stops", Rows.laid_loop_example_spandrel_impl_stops), ("unicode/utf8.first", Rows.laid_unicode_utf8_first)]
set_option maxRecDepth 100000 in
theorem lifted (os:Os) (started:os.Started) (H:Type) (enc:TypeId × Value→H) :
  ReturnsInHanded {} Tryz.checked os 4 .any (fun w args=>(Rows.fnIndexPostsSpec.pre enc Tryz.prog Tryz.f4 [] false w args∧laidMetH Tryz.prog qK w)∧sizedMet enc Tryz.prog Tryz.f4 (OpenSpec.ofChange Rows.fnIndexPostsSpec) false w args) (Rows.fnIndexPostsSpec.post enc Tryz.prog Tryz.f4 false true false false):=by
 refine mQ (C:=Tryz.checked) (X:=fun w _=>laidMetH Tryz.prog qK w) (fun _ _ _ hh h=>h.of_heap hh) own started (by kernel_rfl) Tryz.func4
  (ChangeSpec.witness_shaped (enc:=enc) (C:=Tryz.checked) (os:=os) (X:=fun w _=>laidMetH Tryz.prog qK w) false (World.laidAll Tryz.prog os qK) #[.slice none 0 0] 8 (World.laidAll_os _ _ _) (World.shaped_of_ZipB (by kernel_rfl) (by kernel_rfl)) (by kernel_rfl) (by kernel_rfl) (by kernel_rfl) (by rw[MakeChecks.laidMetH_plain _ _ _ (by kernel_rfl)];exact laidMet_laidAll _ (by kernel_rfl) (by kernel_rfl))) ?_
 intro W base args ds gs before hSh hval0 hW hL;have hval:∀(j:Nat) t v,Tryz.f4.params[j]? = some t→args[j]? = some v→Value.okWide Tryz.prog W .any base t v:=hval0;have hW':=hW;obtain⟨p,q,hA0,hV,rfl,hfz,hnd⟩:=hW;have hA:DataW.TrodAll enc Tryz.prog W 0 (fun _=>true) true Tryz.f4.params.toList args.toList ds p:=hA0;rw[Tryz.params4] at hA hval;obtain⟨v0,vs0,d0,ds0,p0,q0,hargs,rfl,rfl,h0,r0⟩:=trodAll_cons hA;obtain⟨rfl,rfl,rfl⟩:=trodAll_nil r0;obtain rfl:args = #[v0]:=by cases args;simp_all
 obtain⟨g1_,rfl⟩:∃g1_,gs = [g1_]:=by obtain⟨_,_,_,_,d,_,e,_⟩:=trodVars_one hV;exact⟨d,e⟩
 obtain⟨A0,len0,cap0,rfl⟩:=okWide_slice Tryz.underlying22 (hval 0 22 v0 rfl rfl);have k0_:=h0;have lt0:∀x∈p0,x.block<W.heap.size:=by obtain⟨m,hm⟩:=k0_;exact DataW.trod_lt m _ _ _ hm
 obtain⟨fuel0,hf0⟩:=h0;obtain⟨l0,⟨B0,c0,e0,hc0,hr0⟩,g0⟩:=(Opens.slice Tryz.underlying22 (by kernel_rfl) (Opens.int Tryz.underlying5 (by kernel_rfl))).op hf0;simp only[Value.cells,List.cons.injEq,Value.slice.injEq,and_true] at e0;obtain⟨rfl,rfl,rfl⟩:=e0;clear hA0 hval0;obtain⟨k,hk⟩:=Pure.FnIndexPosts l0 g0;refine(ai.calls k _ _ l0 true W (nK hSh hL) hr0 hc0 hk).mono fun e W' ⟨he,bel⟩=>?_
 subst he;exact⟨_,rfl,_,_,_,[],_,_,hW',trodAll_mk1 (shut_bool Tryz.underlying4 _),(trodAll_cons_mk (Below.trod qA (by kernel_rfl) (of_decide_eq_true (by kernel_rfl)) k0_ bel lt0) trodAll_mk0),qT qA hV bel,bel.frame _,fun h=>by cases h⟩
theorem over:Rows.fnIndexPostsRow.holds Tryz.pinned (OpenSpec.ofChange Rows.fnIndexPostsSpec):=
 OpenClaim.holds_of_wide 4 Tryz.f4 rfl rfl rfl rfl rfl rfl rfl ⟨rfl,rfl,rfl,rfl,rfl⟩ rfl rfl rfl rfl rfl (by kernel_rfl) Tryz.func4 (by kernel_rfl)
  (of_decide_eq_true (by kernel_rfl)) (by unfold Func.isWrapper;first | (rw[if_pos (by decide +kernel)];kernel_rfl)|(rw[if_neg (by decide +kernel)];exact⟨rfl,rfl⟩))
  (fun os started H enc _=>lifted os started H enc)
#print axioms over
end Go.Proofs.YtnjjdojonflckaaGreatDoor.fnIndexPosts
namespace Go.Proofs.YtnjjdojonflckaaGreatDoor
theorem fnIndexPosts_holds:Rows.FnIndexPostsCardSaid:=
 Claim7.holds_tied_plain_at .later [] [.data, .data, .data, .data, .sentinel, .sentinel, .widerDeep, .pinned] true (true, "1dd9329d749ef49d12fd328c2a814219f8792b9363edf2cf2d355fc22d690408") true
  fnIndexPosts.over (fun _ h=>by cases h) (by kernel_rfl) (fun _ h=>by cases h) fnIndexPosts_row_tie rfl ⟨rfl,rfl⟩ (by kernel_rfl) rfl
  (fun f fn hf hfn=>by
   obtain rfl : f = 4 := Option.some.inj ((show Tryz.prog.funcNamed "loop.example/spandrel/laws.FnIndexPosts" = some 4 by kernel_rfl).symm.trans hf) |>.symm
   obtain rfl:fn=Tryz.f4:=(Option.some.inj (Tryz.func4.symm.trans hfn)).symm;exact⟨by kernel_rfl,fun j t ht=>by
    rw[Tryz.params4] at ht;have hm:t ∈ [22]:=by simpa using Array.mem_of_getElem? ht
    have hall:([22].all fun u=>!Tryz.prog.wantsStandIn u)=true:=by kernel_rfl
    exact(show Tryz.prog.wantsStandIn t=false by simpa using List.all_eq_true.1 hall t hm)⟩)
  (by kernel_rfl)
#print axioms fnIndexPosts_holds
end Go.Proofs.YtnjjdojonflckaaGreatDoor
