/- Contracts of Go functions that the law FnExactDocOk reaches: each is told as a plain Lean function, with the walk that shows it; no condition beyond what each states. Written by a program of this session round the kit's printer. -/
import Derived.Test.YtelcdhjdlgedeaaDoorQPFnExactDocOkx0
import Derived.Test.YtelcdhjdlgedeaaDoorQPFnExactDocOkx1
import Derived.Test.YtelcdhjdlgedeaaDoorQPFnExactDocOkx3
import Derived.Test.YtelcdhjdlgedeaaDoorQPFnExactDocOkx9
import Derived.Test.YtelcdhjdlgedeaaDoorQPFnExactDocOkx10
import Derived.Test.YtelcdhjdlgedeaaDoorQPFnExactDocOkx11
namespace Go.Proofs.YtelcdhjdlgedeaaDoor.PFnExactDocOk
open Go.RowKit Go.Proofs.YtelcdhjdlgedeaaDoorW.PrintWords Go.Proofs.YtelcdhjdlgedeaaDoorW.PrintLast Go.Proofs.YtelcdhjdlgedeaaDoorW.PrintMore
attribute [local go_sem] run_str_geq run_str_leq max2_int min2_int max_two min_two max_three min_three max_four min_four   -- for this text's walks alone
set_option linter.unusedVariables false
set_option linter.unusedSimpArgs false

/-! ### laws_FnExactDocOk: function 8 -/
def laws_FnExactDocOk.f (k : Nat) (l0 : List (S90)) (a1_0 : ByteArray) (l1_1 : List (S114)) : Option (Bool) := (laws_szFieldS.f k l0 1048576).bind fun t308 => (if t308 < 0 then (some true) else ((laws_szDoc.f k a1_0 l1_1 t308).bind fun t309 => (if t309 < 0 then (some true) else ((laws_toFieldS.f k l0).bind fun t310 => ((laws_toDoc.f k a1_0 l1_1).bind fun bt313 => ((spec_DocOk.f k t310 bt313.1 bt313.2).bind fun t317 => ((laws_toFieldS.f k l0).bind fun t318 => ((laws_toDoc.f k a1_0 l1_1).bind fun bt321 => ((impl_DocOk.f k t318 bt321.1 bt321.2).bind fun t326 => (if (t326 != t317) = true then (some false) else ((laws_toFieldS.f k l0).bind fun t327 => ((laws_eqFieldS.f k t318 t327).bind fun t330 => (if t330 = true then ((laws_toDoc.f k a1_0 l1_1).bind fun bt331 => ((laws_eqDoc.f k bt321.1 bt321.2 bt331.1 bt331.2).bind fun t335 => (if t335 = true then (some true) else (some false)))) else (some false))))))))))))))
theorem laws_FnExactDocOk.mono : ∀ a0 a1 a2 k, LeO (laws_FnExactDocOk.f k a0 a1 a2) (laws_FnExactDocOk.f (k + 1) a0 a1 a2) := by
 intro a0 a1 a2 k
 unfold laws_FnExactDocOk.f
 repeat' first
   | (with_reducible exact impl_DocOk.mono _ _ _ _)
   | (with_reducible exact laws_eqDoc.mono _ _ _ _ _)
   | (with_reducible exact laws_eqFieldS.mono _ _ _)
   | (with_reducible exact laws_szDoc.mono _ _ _ _)
   | (with_reducible exact laws_szFieldS.mono _ _ _)
   | (with_reducible exact laws_toDoc.mono _ _ _)
   | (with_reducible exact laws_toFieldS.mono _ _)
   | (with_reducible exact spec_DocOk.mono _ _ _ _)
   | (with_reducible exact LeO.refl _)
   | (with_reducible exact LeO.none _)
   | (with_reducible refine LeO.ite ?_ ?_)
   | (with_reducible refine LeO.bind ?_ (fun _ => ?_))
   | exact impl_DocOk.mono _ _ _ _
   | exact laws_eqDoc.mono _ _ _ _ _
   | exact laws_eqFieldS.mono _ _ _
   | exact laws_szDoc.mono _ _ _ _
   | exact laws_szFieldS.mono _ _ _
   | exact laws_toDoc.mono _ _ _
   | exact laws_toFieldS.mono _ _
   | exact spec_DocOk.mono _ _ _ _
   | exact LeO.none _
   | refine LeO.ite ?_ ?_
   | refine LeO.bind ?_ (fun _ => ?_)
set_option maxHeartbeats 8000000 in
set_option maxRecDepth 100000 in
theorem laws_FnExactDocOk.calls (k : Nat) (A0 : Option Addr) (c0 : Nat) (l0 : List (S90)) (a1_0 : ByteArray) (A1_1 : Option Addr) (c1_1 : Nat) (l1_1 : List (S114)) (r : Bool) (w : World) (hG : StopsIn w) (hr0 : Kd.C k90 w A0 l0.length l0) (hc0 : l0.length ≤ c0) (hr1_1 : Kd.C k114 w A1_1 l1_1.length l1_1) (hc1_1 : l1_1.length ≤ c1_1) (h : laws_FnExactDocOk.f k l0 a1_0 l1_1 = some r) :
  Calls Tryd.prog 8 #[.slice A0 l0.length c0, .agg #[.string a1_0, .slice A1_1 l1_1.length c1_1]] w fun e w' => e = .returned (.bool r) ∧ Below w.heap.size w w' := by
 have hu54 := Tryd.underlying54
 have hu41 := Tryd.underlying41
 have HG_ := Aside0.mk hG
 clear hG
 have HR0 := Aside0.mk hr0
 have HC0 := Aside0.mk hc0
 clear hr0 hc0
 have HR1_1 := Aside0.mk hr1_1
 have HC1_1 := Aside0.mk hc1_1
 clear hr1_1 hc1_1
 have HB := Aside0.mk (Below.refl w.heap.size w)
 have H : ((laws_szFieldS.f k l0 1048576).bind fun t308 => (if t308 < 0 then (some true) else ((laws_szDoc.f k a1_0 l1_1 t308).bind fun t309 => (if t309 < 0 then (some true) else ((laws_toFieldS.f k l0).bind fun t310 => ((laws_toDoc.f k a1_0 l1_1).bind fun bt313 => ((spec_DocOk.f k t310 bt313.1 bt313.2).bind fun t317 => ((laws_toFieldS.f k l0).bind fun t318 => ((laws_toDoc.f k a1_0 l1_1).bind fun bt321 => ((impl_DocOk.f k t318 bt321.1 bt321.2).bind fun t326 => (if (t326 != t317) = true then (some false) else ((laws_toFieldS.f k l0).bind fun t327 => ((laws_eqFieldS.f k t318 t327).bind fun t330 => (if t330 = true then ((laws_toDoc.f k a1_0 l1_1).bind fun bt331 => ((laws_eqDoc.f k bt321.1 bt321.2 bt331.1 bt331.2).bind fun t335 => (if t335 = true then (some true) else (some false)))) else (some false))))))))))))))) = some r := h
 clear h
 replace H := Option.bind_eq_some_iff.mp H
 obtain ⟨t308, A30, H⟩ := H
 replace H : (if t308 < 0 then (some true) else ((laws_szDoc.f k a1_0 l1_1 t308).bind fun t309 => (if t309 < 0 then (some true) else ((laws_toFieldS.f k l0).bind fun t310 => ((laws_toDoc.f k a1_0 l1_1).bind fun bt313 => ((spec_DocOk.f k t310 bt313.1 bt313.2).bind fun t317 => ((laws_toFieldS.f k l0).bind fun t318 => ((laws_toDoc.f k a1_0 l1_1).bind fun bt321 => ((impl_DocOk.f k t318 bt321.1 bt321.2).bind fun t326 => (if (t326 != t317) = true then (some false) else ((laws_toFieldS.f k l0).bind fun t327 => ((laws_eqFieldS.f k t318 t327).bind fun t330 => (if t330 = true then ((laws_toDoc.f k a1_0 l1_1).bind fun bt331 => ((laws_eqDoc.f k bt321.1 bt321.2 bt331.1 bt331.2).bind fun t335 => (if t335 = true then (some true) else (some false)))) else (some false)))))))))))))) = some r := H
 have A3 := Aside0.mk A30
 clear A30
 by_cases c4 : t308 < 0
 ·rw [if_pos c4] at H
  have c4b0 : decide (t308 < 0) = true := decide_eq_true c4
  clear c4
  obtain rfl := Option.some.inj H
  go_enter Tryd.func8, Tryd.ntmps8
  go_wp2_with (first | ((with_reducible refine gate_dst (N := 3) rfl ?_); refine box_event ?hg (N := 3) ?hd (cs := #[.string a1_0, .slice A1_1 l1_1.length c1_1]) (t := 54) ?hr ?_; (case hd => rfl); (case hg => rfl); (case hr => first | (go_simp; done) | (go_simp; rfl)); intro gb307 hg w5 hbox hb; have n0_ := Aside0.mk (below_step u0_ hb); have n1_ := Aside0.mk (hbox); have n2_ := Aside0.mk ((by rw [hg]; exact (below_size u0_) : w.heap.size ≤ gb307)); have n3_ := n2_; clear HB; have HB := n0_; have BK307 := n1_; have GW307 := n2_; have GE307 := n3_; clear n0_ n1_ n2_ n3_; clear hb hbox hg) | ((with_reducible refine gate_callee (f := 35) rfl ?_); refine goesL_ (some 12) rfl rfl Tryd.func35 u7_ rfl #[.slice A0 l0.length c0, .int .i64 1048576] rfl u1_ ?_; (with_reducible refine (laws_szFieldS.calls k _ _ l0 1048576 t308 _ ?side1 ?side2 A3.out).mono ?_); (case side1 => repeat (first | exact (Kd.C_below HR0.out HB.out) | (with_reducible refine Kd.C_alloc ?_ _) | (with_reducible refine Kd.C_drewN ?_ _) | (with_reducible refine Kd.C_drew ?_))); (case side2 => exact HC0.out); rintro e w6 ⟨rfl, hb⟩; refine ⟨_, rfl, ?_⟩; have n0_ := Aside0.mk (blk_below (g := gb307) (o := .cells #[.string a1_0, .slice A1_1 l1_1.length c1_1] 54 (0, 0)) u5_ hb); have n1_ := Aside0.mk (below_step u4_ hb); clear BK307; clear HB; have BK307 := n0_; have HB := n1_; clear n0_ n1_; (try clear hb); (try clear hb2); (try clear hk); (try clear hi)))
  go_ret
  exact ⟨u3_, u4_⟩
 ·rw [if_neg c4] at H
  have c4b0 : decide (t308 < 0) = false := decide_eq_false c4
  clear c4
  replace H := Option.bind_eq_some_iff.mp H
  obtain ⟨t309, A70, H⟩ := H
  replace H : (if t309 < 0 then (some true) else ((laws_toFieldS.f k l0).bind fun t310 => ((laws_toDoc.f k a1_0 l1_1).bind fun bt313 => ((spec_DocOk.f k t310 bt313.1 bt313.2).bind fun t317 => ((laws_toFieldS.f k l0).bind fun t318 => ((laws_toDoc.f k a1_0 l1_1).bind fun bt321 => ((impl_DocOk.f k t318 bt321.1 bt321.2).bind fun t326 => (if (t326 != t317) = true then (some false) else ((laws_toFieldS.f k l0).bind fun t327 => ((laws_eqFieldS.f k t318 t327).bind fun t330 => (if t330 = true then ((laws_toDoc.f k a1_0 l1_1).bind fun bt331 => ((laws_eqDoc.f k bt321.1 bt321.2 bt331.1 bt331.2).bind fun t335 => (if t335 = true then (some true) else (some false)))) else (some false)))))))))))) = some r := H
  have A7 := Aside0.mk A70
  clear A70
  by_cases c8 : t309 < 0
  ·rw [if_pos c8] at H
   have c8b0 : decide (t309 < 0) = true := decide_eq_true c8
   clear c8
   obtain rfl := Option.some.inj H
   go_enter Tryd.func8, Tryd.ntmps8
   go_wp2_with (first | ((with_reducible refine gate_dst (N := 3) rfl ?_); refine box_event ?hg (N := 3) ?hd (cs := #[.string a1_0, .slice A1_1 l1_1.length c1_1]) (t := 54) ?hr ?_; (case hd => rfl); (case hg => rfl); (case hr => first | (go_simp; done) | (go_simp; rfl)); intro gb307 hg w9 hbox hb; have n0_ := Aside0.mk (below_step u0_ hb); have n1_ := Aside0.mk (hbox); have n2_ := Aside0.mk ((by rw [hg]; exact (below_size u0_) : w.heap.size ≤ gb307)); have n3_ := n2_; clear HB; have HB := n0_; have BK307 := n1_; have GW307 := n2_; have GE307 := n3_; clear n0_ n1_ n2_ n3_; clear hb hbox hg) | ((with_reducible refine gate_callee (f := 35) rfl ?_); refine goesL_ (some 12) rfl rfl Tryd.func35 u7_ rfl #[.slice A0 l0.length c0, .int .i64 1048576] rfl u1_ ?_; (with_reducible refine (laws_szFieldS.calls k _ _ l0 1048576 t308 _ ?side1 ?side2 A3.out).mono ?_); (case side1 => repeat (first | exact (Kd.C_below HR0.out HB.out) | (with_reducible refine Kd.C_alloc ?_ _) | (with_reducible refine Kd.C_drewN ?_ _) | (with_reducible refine Kd.C_drew ?_))); (case side2 => exact HC0.out); rintro e w10 ⟨rfl, hb⟩; refine ⟨_, rfl, ?_⟩; have n0_ := Aside0.mk (blk_below (g := gb307) (o := .cells #[.string a1_0, .slice A1_1 l1_1.length c1_1] 54 (0, 0)) u5_ hb); have n1_ := Aside0.mk (below_step u4_ hb); clear BK307; clear HB; have BK307 := n0_; have HB := n1_; clear n0_ n1_; (try clear hb); (try clear hb2); (try clear hk); (try clear hi); have hcz11_0 : w10.cell? ⟨gb307, 0, none⟩ = some (.string a1_0) := (blk_cell BK307.out 0).trans rfl; have hcz11_1 : w10.cell? ⟨gb307, 1, none⟩ = some (.slice A1_1 l1_1.length c1_1) := (blk_cell BK307.out 1).trans rfl; have hfz11_0 := blk_frozen BK307.out 0; have hfz11_1 := blk_frozen BK307.out 1) | ((with_reducible refine gate_callee (f := 36) rfl ?_); refine goesL_ (some 17) rfl rfl Tryd.func36 u7_ rfl #[.agg #[.string a1_0, .slice A1_1 l1_1.length c1_1], .int .i64 t308] rfl u1_ ?_; (with_reducible refine (laws_szDoc.calls k a1_0 _ _ l1_1 t308 t309 _ ?side1 ?side2 A7.out).mono ?_); (case side1 => repeat (first | exact (Kd.C_below HR1_1.out HB.out) | (with_reducible refine Kd.C_alloc ?_ _) | (with_reducible refine Kd.C_drewN ?_ _) | (with_reducible refine Kd.C_drew ?_))); (case side2 => exact HC1_1.out); rintro e w12 ⟨rfl, hb⟩; refine ⟨_, rfl, ?_⟩; have n0_ := Aside0.mk (blk_below (g := gb307) (o := .cells #[.string a1_0, .slice A1_1 l1_1.length c1_1] 54 (0, 0)) u5_ hb); have n1_ := Aside0.mk (below_step u4_ hb); clear BK307; clear HB; have BK307 := n0_; have HB := n1_; clear n0_ n1_; (try clear hb); (try clear hb2); (try clear hk); (try clear hi)))
   go_ret
   exact ⟨u3_, u4_⟩
  ·rw [if_neg c8] at H
   have c8b0 : decide (t309 < 0) = false := decide_eq_false c8
   clear c8
   replace H := Option.bind_eq_some_iff.mp H
   obtain ⟨t310, A130, H⟩ := H
   replace H : ((laws_toDoc.f k a1_0 l1_1).bind fun bt313 => ((spec_DocOk.f k t310 bt313.1 bt313.2).bind fun t317 => ((laws_toFieldS.f k l0).bind fun t318 => ((laws_toDoc.f k a1_0 l1_1).bind fun bt321 => ((impl_DocOk.f k t318 bt321.1 bt321.2).bind fun t326 => (if (t326 != t317) = true then (some false) else ((laws_toFieldS.f k l0).bind fun t327 => ((laws_eqFieldS.f k t318 t327).bind fun t330 => (if t330 = true then ((laws_toDoc.f k a1_0 l1_1).bind fun bt331 => ((laws_eqDoc.f k bt321.1 bt321.2 bt331.1 bt331.2).bind fun t335 => (if t335 = true then (some true) else (some false)))) else (some false)))))))))) = some r := H
   have A13 := Aside0.mk A130
   clear A130
   replace H := Option.bind_eq_some_iff.mp H
   obtain ⟨⟨t313, t314⟩, A140, H⟩ := H
   replace H : ((spec_DocOk.f k t310 t313 t314).bind fun t317 => ((laws_toFieldS.f k l0).bind fun t318 => ((laws_toDoc.f k a1_0 l1_1).bind fun bt321 => ((impl_DocOk.f k t318 bt321.1 bt321.2).bind fun t326 => (if (t326 != t317) = true then (some false) else ((laws_toFieldS.f k l0).bind fun t327 => ((laws_eqFieldS.f k t318 t327).bind fun t330 => (if t330 = true then ((laws_toDoc.f k a1_0 l1_1).bind fun bt331 => ((laws_eqDoc.f k bt321.1 bt321.2 bt331.1 bt331.2).bind fun t335 => (if t335 = true then (some true) else (some false)))) else (some false))))))))) = some r := H
   have A14 := Aside0.mk A140
   clear A140
   replace H := Option.bind_eq_some_iff.mp H
   obtain ⟨t317, A150, H⟩ := H
   replace H : ((laws_toFieldS.f k l0).bind fun t318 => ((laws_toDoc.f k a1_0 l1_1).bind fun bt321 => ((impl_DocOk.f k t318 bt321.1 bt321.2).bind fun t326 => (if (t326 != t317) = true then (some false) else ((laws_toFieldS.f k l0).bind fun t327 => ((laws_eqFieldS.f k t318 t327).bind fun t330 => (if t330 = true then ((laws_toDoc.f k a1_0 l1_1).bind fun bt331 => ((laws_eqDoc.f k bt321.1 bt321.2 bt331.1 bt331.2).bind fun t335 => (if t335 = true then (some true) else (some false)))) else (some false)))))))) = some r := H
   have A15 := Aside0.mk A150
   clear A150
   replace H := Option.bind_eq_some_iff.mp H
   obtain ⟨t318, A160, H⟩ := H
   replace H : ((laws_toDoc.f k a1_0 l1_1).bind fun bt321 => ((impl_DocOk.f k t318 bt321.1 bt321.2).bind fun t326 => (if (t326 != t317) = true then (some false) else ((laws_toFieldS.f k l0).bind fun t327 => ((laws_eqFieldS.f k t318 t327).bind fun t330 => (if t330 = true then ((laws_toDoc.f k a1_0 l1_1).bind fun bt331 => ((laws_eqDoc.f k bt321.1 bt321.2 bt331.1 bt331.2).bind fun t335 => (if t335 = true then (some true) else (some false)))) else (some false))))))) = some r := H
   have A16 := Aside0.mk A160
   clear A160
   replace H := Option.bind_eq_some_iff.mp H
   obtain ⟨⟨t321, t322⟩, A170, H⟩ := H
   replace H : ((impl_DocOk.f k t318 t321 t322).bind fun t326 => (if (t326 != t317) = true then (some false) else ((laws_toFieldS.f k l0).bind fun t327 => ((laws_eqFieldS.f k t318 t327).bind fun t330 => (if t330 = true then ((laws_toDoc.f k a1_0 l1_1).bind fun bt331 => ((laws_eqDoc.f k t321 t322 bt331.1 bt331.2).bind fun t335 => (if t335 = true then (some true) else (some false)))) else (some false)))))) = some r := H
   have A17 := Aside0.mk A170
   clear A170
   replace H := Option.bind_eq_some_iff.mp H
   obtain ⟨t326, A180, H⟩ := H
   replace H : (if (t326 != t317) = true then (some false) else ((laws_toFieldS.f k l0).bind fun t327 => ((laws_eqFieldS.f k t318 t327).bind fun t330 => (if t330 = true then ((laws_toDoc.f k a1_0 l1_1).bind fun bt331 => ((laws_eqDoc.f k t321 t322 bt331.1 bt331.2).bind fun t335 => (if t335 = true then (some true) else (some false)))) else (some false))))) = some r := H
   have A18 := Aside0.mk A180
   clear A180
   by_cases c19 : (t326 != t317) = true
   ·rw [if_pos c19] at H
    have c19b0 : (t326 != t317) = true := c19
    (try (have c19b1 : decide (t326 = t317) = false := by simpa using c19))
    (try (have c19b2 : (t326 == t317) = false := by simpa using c19))
    (try (have c19b3 : ¬ (t326 = t317) := by simpa using c19))
    clear c19
    obtain rfl := Option.some.inj H
    go_enter Tryd.func8, Tryd.ntmps8
    try go_wp2_with (first | ((with_reducible refine gate_dst (N := 3) rfl ?_); refine box_event ?hg (N := 3) ?hd (cs := #[.string a1_0, .slice A1_1 l1_1.length c1_1]) (t := 54) ?hr ?_; (case hd => rfl); (case hg => rfl); (case hr => first | (go_simp; done) | (go_simp; rfl)); intro gb307 hg w20 hbox hb; have n0_ := Aside0.mk (below_step u0_ hb); have n1_ := Aside0.mk (hbox); have n2_ := Aside0.mk ((by rw [hg]; exact (below_size u0_) : w.heap.size ≤ gb307)); have n3_ := n2_; clear HB; have HB := n0_; have BK307 := n1_; have GW307 := n2_; have GE307 := n3_; clear n0_ n1_ n2_ n3_; clear hb hbox hg) | ((with_reducible refine gate_callee (f := 35) rfl ?_); refine goesL_ (some 12) rfl rfl Tryd.func35 u7_ rfl #[.slice A0 l0.length c0, .int .i64 1048576] rfl u1_ ?_; (with_reducible refine (laws_szFieldS.calls k _ _ l0 1048576 t308 _ ?side1 ?side2 A3.out).mono ?_); (case side1 => repeat (first | exact (Kd.C_below HR0.out HB.out) | (with_reducible refine Kd.C_alloc ?_ _) | (with_reducible refine Kd.C_drewN ?_ _) | (with_reducible refine Kd.C_drew ?_))); (case side2 => exact HC0.out); rintro e w21 ⟨rfl, hb⟩; refine ⟨_, rfl, ?_⟩; have n0_ := Aside0.mk (blk_below (g := gb307) (o := .cells #[.string a1_0, .slice A1_1 l1_1.length c1_1] 54 (0, 0)) u5_ hb); have n1_ := Aside0.mk (below_step u4_ hb); clear BK307; clear HB; have BK307 := n0_; have HB := n1_; clear n0_ n1_; (try clear hb); (try clear hb2); (try clear hk); (try clear hi); have hcz22_0 : w21.cell? ⟨gb307, 0, none⟩ = some (.string a1_0) := (blk_cell BK307.out 0).trans rfl; have hcz22_1 : w21.cell? ⟨gb307, 1, none⟩ = some (.slice A1_1 l1_1.length c1_1) := (blk_cell BK307.out 1).trans rfl; have hfz22_0 := blk_frozen BK307.out 0; have hfz22_1 := blk_frozen BK307.out 1) | ((with_reducible refine gate_callee (f := 36) rfl ?_); refine goesL_ (some 17) rfl rfl Tryd.func36 u7_ rfl #[.agg #[.string a1_0, .slice A1_1 l1_1.length c1_1], .int .i64 t308] rfl u1_ ?_; (with_reducible refine (laws_szDoc.calls k a1_0 _ _ l1_1 t308 t309 _ ?side1 ?side2 A7.out).mono ?_); (case side1 => repeat (first | exact (Kd.C_below HR1_1.out HB.out) | (with_reducible refine Kd.C_alloc ?_ _) | (with_reducible refine Kd.C_drewN ?_ _) | (with_reducible refine Kd.C_drew ?_))); (case side2 => exact HC1_1.out); rintro e w23 ⟨rfl, hb⟩; refine ⟨_, rfl, ?_⟩; have n0_ := Aside0.mk (blk_below (g := gb307) (o := .cells #[.string a1_0, .slice A1_1 l1_1.length c1_1] 54 (0, 0)) u5_ hb); have n1_ := Aside0.mk (below_step u4_ hb); clear BK307; clear HB; have BK307 := n0_; have HB := n1_; clear n0_ n1_; (try clear hb); (try clear hb2); (try clear hk); (try clear hi)))
    have n0_ := Aside0.mk (blk_drew BK307.out)
    have n1_ := Aside0.mk (below_drew1 HB.out)
    clear BK307
    clear HB
    have BK307 := n0_
    have HB := n1_
    clear n0_ n1_
    refine start_ (n := 6) (S := fun w' => w'.cell? ⟨gb307, 0, none⟩ = some (.string a1_0) ∧ w'.cell? ⟨gb307, 1, none⟩ = some (.slice A1_1 l1_1.length c1_1)) (ds := []) #[false, false, false, false, false, false] u7_ rfl rfl ⟨(blk_cell BK307.out 0).trans rfl, (blk_cell BK307.out 1).trans rfl⟩ (fun hHeld => ?_)
    generalize w23.drew = w24 at BK307 HB hHeld ⊢
    refine pure_ (i := 0) (N := some 20) (v := ?_) (a' := ?_) #[true, false, false, false, false, false] rfl rfl u7_ (fun _ _ _ h => h) (Or.inl ⟨u39_, ?_⟩) ?_ ?_
    rotate_left
    ·intro w'
     go_simp
     with_reducible rfl
    rotate_left
    ·simp only [Act.put, List.setIfInBounds_toArray, List.set_cons_zero, List.set_cons_succ, i64_w, i32_w]
     rfl
    refine take_ (i := 2) (N := some 22) (v := ?_) (a' := ?_) #[true, false, true, false, false, false] rfl rfl u7_ (fun _ _ _ h => h) (Or.inl ⟨u39_, ?_⟩) hHeld ?_ ?_
    rotate_left
    ·rintro w' ⟨s0, s1⟩
     go_simp
     with_reducible rfl
    rotate_left
    ·simp only [Act.put, List.setIfInBounds_toArray, List.set_cons_zero, List.set_cons_succ, i64_w, i32_w]
     rfl
    refine one_ (i := 1) (N := some 21) #[true, true, true, false, false, false] rfl rfl u7_ u64_ (fun K hK => ?_)
    refine goes_ Tryd.func37 u7_ rfl #[.slice A0 l0.length c0] u39_ rfl rfl u1_ ?_
    with_reducible refine (laws_toFieldS.calls k _ _ l0 t310 _ ?side1 ?side2 A13.out).mono ?_
    (case side1 => repeat (first | exact (Kd.C_below HR0.out HB.out) | (with_reducible refine Kd.C_alloc ?_ _) | (with_reducible refine Kd.C_drewN ?_ _) | (with_reducible refine Kd.C_drew ?_)))
    (case side2 => exact HC0.out)
    rintro e w25 ⟨v311, rfl, ho0, hb⟩
    refine ⟨_, rfl, ?_⟩
    have n0_ := Aside0.mk (Kd.R_lower ho0 (below_size u4_))
    have n1_ := Aside0.mk (blk_below (g := gb307) (o := .cells #[.string a1_0, .slice A1_1 l1_1.length c1_1] 54 (0, 0)) u5_ hb)
    have n2_ := Aside0.mk (below_step u4_ hb)
    clear BK307
    clear HB
    have HO312 := n0_
    have BK307 := n1_
    have HB := n2_
    clear n0_ n1_ n2_
    (try clear hb)
    (try clear hb2)
    (try clear hk)
    (try clear hi)
    (try clear ho0)
    refine hK.out _ _ ⟨(blk_cell BK307.out 0).trans rfl, (blk_cell BK307.out 1).trans rfl⟩ (fun hHeld => ?_)
    clear hK K
    refine norm_ (a' := ?_) ?_ ?_
    rotate_left
    ·show Act.put _ (some 21) _ = _
     simp only [Act.put, List.setIfInBounds_toArray, List.set_cons_zero, List.set_cons_succ, i64_w, i32_w]
     rfl
    refine one_ (i := 3) (N := some 23) #[true, true, true, true, false, false] rfl rfl u7_ u64_ (fun K hK => ?_)
    refine goes_ Tryd.func38 u7_ rfl #[.agg #[.string a1_0, .slice A1_1 l1_1.length c1_1]] u39_ rfl rfl u1_ ?_
    with_reducible refine (laws_toDoc.calls k a1_0 _ _ l1_1 t313 t314 _ ?side1 ?side2 A14.out).mono ?_
    (case side1 => repeat (first | exact (Kd.C_below HR1_1.out HB.out) | (with_reducible refine Kd.C_alloc ?_ _) | (with_reducible refine Kd.C_drewN ?_ _) | (with_reducible refine Kd.C_drew ?_)))
    (case side2 => exact HC1_1.out)
    rintro e w26 ⟨v315, rfl, ho0, hb⟩
    refine ⟨_, rfl, ?_⟩
    have n0_ := Aside0.mk (Kd.R_below u14_ hb)
    have n1_ := Aside0.mk (Kd.R_lower ho0 (below_size u4_))
    have n2_ := Aside0.mk (blk_below (g := gb307) (o := .cells #[.string a1_0, .slice A1_1 l1_1.length c1_1] 54 (0, 0)) u5_ hb)
    have n3_ := Aside0.mk (below_step u4_ hb)
    clear HO312
    clear BK307
    clear HB
    have HO312 := n0_
    have HO316 := n1_
    have BK307 := n2_
    have HB := n3_
    clear n0_ n1_ n2_ n3_
    (try clear hb)
    (try clear hb2)
    (try clear hk)
    (try clear hi)
    (try clear ho0)
    obtain ⟨Ao27, co27, eo27⟩ := Kd.R_slice HO312.out
    (first | subst eo27 | (injection eo27 with f1_ f2_ f3_; have f4_ := f1_.symm; have f5_ := f3_.symm; clear f1_ f2_ f3_; subst f4_; subst f5_))
    obtain ⟨Ao28, co28, eo28⟩ := Kd.R_slice HO316.out
    (first | subst eo28 | (injection eo28 with f1_ f2_ f3_; have f4_ := f1_.symm; have f5_ := f3_.symm; clear f1_ f2_ f3_; subst f4_; subst f5_))
    refine hK.out _ _ ⟨(blk_cell BK307.out 0).trans rfl, (blk_cell BK307.out 1).trans rfl⟩ (fun hHeld => ?_)
    clear hK K
    refine norm_ (a' := ?_) ?_ ?_
    rotate_left
    ·show Act.put _ (some 23) _ = _
     simp only [Act.put, List.setIfInBounds_toArray, List.set_cons_zero, List.set_cons_succ, i64_w, i32_w]
     rfl
    refine one_ (i := 4) (N := some 24) #[true, true, true, true, true, false] rfl rfl u7_ u64_ (fun K hK => ?_)
    refine goes_ Tryd.func27 u7_ rfl #[.slice Ao27 t310.length co27, .agg #[.string t313, .slice Ao28 t314.length co28]] u39_ rfl rfl u1_ ?_
    with_reducible refine (spec_DocOk.calls k _ _ t310 t313 _ _ t314 t317 _ ?side1 ?side2 ?side3 ?side4 A15.out).mono ?_
    (case side1 => repeat (first | exact (Kd.R_reads' HO312.out).2.2 | (with_reducible refine Kd.C_alloc ?_ _) | (with_reducible refine Kd.C_drewN ?_ _) | (with_reducible refine Kd.C_drew ?_)))
    (case side2 => exact (Kd.R_reads' HO312.out).2.1)
    (case side3 => repeat (first | exact (Kd.R_reads' HO316.out).2.2 | (with_reducible refine Kd.C_alloc ?_ _) | (with_reducible refine Kd.C_drewN ?_ _) | (with_reducible refine Kd.C_drew ?_)))
    (case side4 => exact (Kd.R_reads' HO316.out).2.1)
    rintro e w29 ⟨rfl, hb⟩
    refine ⟨_, rfl, ?_⟩
    have n0_ := Aside0.mk (Kd.R_below u14_ hb)
    have n1_ := Aside0.mk (Kd.R_below u18_ hb)
    have n2_ := Aside0.mk (blk_below (g := gb307) (o := .cells #[.string a1_0, .slice A1_1 l1_1.length c1_1] 54 (0, 0)) u5_ hb)
    have n3_ := Aside0.mk (below_step u4_ hb)
    clear HO312
    clear HO316
    clear BK307
    clear HB
    have HO312 := n0_
    have HO316 := n1_
    have BK307 := n2_
    have HB := n3_
    clear n0_ n1_ n2_ n3_
    (try clear hb)
    (try clear hb2)
    (try clear hk)
    (try clear hi)
    refine hK.out _ _ ⟨(blk_cell BK307.out 0).trans rfl, (blk_cell BK307.out 1).trans rfl⟩ (fun hHeld => ?_)
    clear hK K
    refine norm_ (a' := ?_) ?_ ?_
    rotate_left
    ·show Act.put _ (some 24) _ = _
     simp only [Act.put, List.setIfInBounds_toArray, List.set_cons_zero, List.set_cons_succ, i64_w, i32_w]
     rfl
    refine pure_ (i := 5) (N := some 6) (v := ?_) (a' := ?_) #[true, true, true, true, true, true] rfl rfl u7_ (fun _ _ _ h => h) (Or.inl ⟨u39_, ?_⟩) ?_ ?_
    rotate_left
    ·intro w'
     go_simp
     with_reducible rfl
    rotate_left
    ·simp only [Act.put, List.setIfInBounds_toArray, List.set_cons_zero, List.set_cons_succ, i64_w, i32_w]
     rfl
    refine done_ u7_ ?_
    try go_wp2_with (first | ((with_reducible refine gate_callee (f := 37) rfl ?_); refine goesL_ (some 26) rfl rfl Tryd.func37 u7_ rfl #[.slice A0 l0.length c0] rfl u1_ ?_; (with_reducible refine (laws_toFieldS.calls k _ _ l0 t318 _ ?side1 ?side2 A16.out).mono ?_); (case side1 => repeat (first | exact (Kd.C_below HR0.out HB.out) | (with_reducible refine Kd.C_alloc ?_ _) | (with_reducible refine Kd.C_drewN ?_ _) | (with_reducible refine Kd.C_drew ?_))); (case side2 => exact HC0.out); rintro e w30 ⟨v319, rfl, ho0, hb⟩; refine ⟨_, rfl, ?_⟩; have n0_ := Aside0.mk (Kd.R_elder' u14_ (Kd.R_base ho0) hb); have n1_ := Aside0.mk (Kd.R_below u18_ hb); have n2_ := Aside0.mk (Kd.R_lower (Kd.R_new' ho0 (Kd.R_lt u14_)) (below_size u4_)); have n3_ := Aside0.mk (blk_below (g := gb307) (o := .cells #[.string a1_0, .slice A1_1 l1_1.length c1_1] 54 (0, 0)) u5_ hb); have n4_ := Aside0.mk (below_step u4_ hb); clear HO312; clear HO316; clear BK307; clear HB; have HO312 := n0_; have HO316 := n1_; have HO320 := n2_; have BK307 := n3_; have HB := n4_; clear n0_ n1_ n2_ n3_ n4_; (try clear hb); (try clear hb2); (try clear hk); (try clear hi); (try clear ho0); have hcz31_0 : w30.cell? ⟨gb307, 0, none⟩ = some (.string a1_0) := (blk_cell BK307.out 0).trans rfl; have hcz31_1 : w30.cell? ⟨gb307, 1, none⟩ = some (.slice A1_1 l1_1.length c1_1) := (blk_cell BK307.out 1).trans rfl; have hfz31_0 := blk_frozen BK307.out 0; have hfz31_1 := blk_frozen BK307.out 1) | ((with_reducible refine gate_callee (f := 38) rfl ?_); refine goesL_ (some 28) rfl rfl Tryd.func38 u7_ rfl #[.agg #[.string a1_0, .slice A1_1 l1_1.length c1_1]] rfl u1_ ?_; (with_reducible refine (laws_toDoc.calls k a1_0 _ _ l1_1 t321 t322 _ ?side1 ?side2 A17.out).mono ?_); (case side1 => repeat (first | exact (Kd.C_below HR1_1.out HB.out) | (with_reducible refine Kd.C_alloc ?_ _) | (with_reducible refine Kd.C_drewN ?_ _) | (with_reducible refine Kd.C_drew ?_))); (case side2 => exact HC1_1.out); rintro e w32 ⟨v323, rfl, ho0, hb⟩; refine ⟨_, rfl, ?_⟩; have n0_ := Aside0.mk (Kd.R_below u14_ hb); have n1_ := Aside0.mk (Kd.R_elder' u18_ (Kd.R_base ho0) hb); have n2_ := Aside0.mk (Kd.R_below u24_ hb); have n3_ := Aside0.mk (Kd.R_lower (Kd.R_new' ho0 (Kd.R_lt u18_)) (below_size u4_)); have n4_ := Aside0.mk (blk_below (g := gb307) (o := .cells #[.string a1_0, .slice A1_1 l1_1.length c1_1] 54 (0, 0)) u5_ hb); have n5_ := Aside0.mk (below_step u4_ hb); clear HO312; clear HO316; clear HO320; clear BK307; clear HB; have HO312 := n0_; have HO316 := n1_; have HO320 := n2_; have HO324 := n3_; have BK307 := n4_; have HB := n5_; clear n0_ n1_ n2_ n3_ n4_ n5_; (try clear hb); (try clear hb2); (try clear hk); (try clear hi); (try clear ho0)) | ((with_reducible refine gate_dst (N := 8) rfl ?_); refine box_event ?hg (N := 8) ?hd (cs := #[.string (⟨#[]⟩ : ByteArray), .slice none 0 0]) (t := 41) ?hr ?_; (case hd => rfl); (case hg => rfl); (case hr => first | (go_simp; done) | (go_simp; rfl)); intro gb325 hg w33 hbox hb; have n0_ := Aside0.mk (Kd.R_below u14_ hb); have n1_ := Aside0.mk (Kd.R_below u18_ hb); have n2_ := Aside0.mk (Kd.R_below u24_ hb); have n3_ := Aside0.mk (Kd.R_below u28_ hb); have n4_ := Aside0.mk (blk_below (g := gb307) (o := .cells #[.string a1_0, .slice A1_1 l1_1.length c1_1] 54 (0, 0)) u5_ hb); have n5_ := Aside0.mk (below_step u4_ hb); have n6_ := Aside0.mk (hbox); have n7_ := Aside0.mk ((by rw [hg]; exact (below_size u4_) : w.heap.size ≤ gb325)); have n8_ := Aside0.mk ((by rw [hg]; exact (below_size u4_) : w.heap.size ≤ gb325)); have n9_ := Aside0.mk ((by rw [hg]; exact Nat.ne_of_lt (blk_lt (g := gb307) (o := .cells #[.string a1_0, .slice A1_1 l1_1.length c1_1] 54 (0, 0)) u5_) : gb307 ≠ gb325)); have n10_ := Aside0.mk ((by rw [hg]; exact Nat.ne_of_gt (blk_lt (g := gb307) (o := .cells #[.string a1_0, .slice A1_1 l1_1.length c1_1] 54 (0, 0)) u5_) : gb325 ≠ gb307)); clear HO312; clear HO316; clear HO320; clear HO324; clear BK307; clear HB; have HO312 := n0_; have HO316 := n1_; have HO320 := n2_; have HO324 := n3_; have BK307 := n4_; have HB := n5_; have BK325 := n6_; have GW325 := n7_; have GE325 := n8_; have NB307_325 := n9_; have NB325_307 := n10_; clear n0_ n1_ n2_ n3_ n4_ n5_ n6_ n7_ n8_ n9_ n10_; clear hb hbox hg; have hnb34 := NB325_307.out; have hnc34 := NB307_325.out; have hcz35_0 : w33.cell? ⟨gb325, 0, none⟩ = some (.string (⟨#[]⟩ : ByteArray)) := (blk_cell BK325.out 0).trans rfl; have hcz35_1 : w33.cell? ⟨gb325, 1, none⟩ = some (.slice none 0 0) := (blk_cell BK325.out 1).trans rfl; have hfz35_0 := blk_frozen BK325.out 0; have hfz35_1 := blk_frozen BK325.out 1; obtain ⟨Ao36, co36, eo36⟩ := Kd.R_slice HO324.out; subst eo36; obtain ⟨Ao37, co37, eo37⟩ := Kd.R_slice HO320.out; subst eo37) | ((with_reducible refine gate_callee (f := 26) rfl ?_); refine goesL_ (some 31) rfl rfl Tryd.func26 u7_ rfl #[.slice Ao37 t318.length co37, .agg #[.string t321, .slice Ao36 t322.length co36]] rfl u1_ ?_; (with_reducible refine (impl_DocOk.calls k _ _ t318 t321 _ _ t322 t326 _ ?side1 ?side2 ?side3 ?side4 ?side5 A18.out).mono ?_); (case side1 => exact StopsIn.below HG_.out u9_); (case side2 => refine (Kd.R_reads' (e := 75) (base := w.heap.size) (ok := fun k_ => (True ∧ some k_ ≠ (.slice Ao27 t310.length co27 : Value).ownBlock)) (n := t318.length) (c := co37) ?_).2.2; exact u91_); (case side3 => exact (Kd.R_reads' HO320.out).2.1); (case side4 => refine (Kd.R_reads' (e := 46) (base := w.heap.size) (ok := fun k_ => (True ∧ some k_ ≠ (.slice Ao28 t314.length co28 : Value).ownBlock)) (n := t322.length) (c := co36) ?_).2.2; exact u92_); (case side5 => exact (Kd.R_reads' HO324.out).2.1); rintro e w38 ⟨rfl, hb⟩; refine ⟨_, rfl, ?_⟩; have n0_ := Aside0.mk (Kd.R_below (by (with_reducible repeat (first | apply Kd.R_alloc | apply Kd.R_drewN | apply Kd.R_drew)); exact (Kd.R_mono (Kd.R_far (p := ⟨gb325, 1, none⟩) (Kd.R_far (p := ⟨gb325, 0, none⟩) (Kd.R_types HO312.out BK325.out u64_) (fun _ hk => hk.2) (.string t321)) (fun _ hk => hk.2) (.slice Ao36 t322.length co36)) (fun _ h_ => h_.1))) hb); have n1_ := Aside0.mk (Kd.R_below (by (with_reducible repeat (first | apply Kd.R_alloc | apply Kd.R_drewN | apply Kd.R_drew)); exact (Kd.R_mono (Kd.R_far (p := ⟨gb325, 1, none⟩) (Kd.R_far (p := ⟨gb325, 0, none⟩) (Kd.R_types HO316.out BK325.out u64_) (fun _ hk => hk.2) (.string t321)) (fun _ hk => hk.2) (.slice Ao36 t322.length co36)) (fun _ h_ => h_.1))) hb); have n2_ := Aside0.mk (Kd.R_below u91_ hb); have n3_ := Aside0.mk (Kd.R_below u92_ hb); have n4_ := Aside0.mk (blk_below (g := gb307) (o := .cells #[.string a1_0, .slice A1_1 l1_1.length c1_1] 54 (0, 0)) u36_ hb); have n5_ := Aside0.mk (blk_below (g := gb325) (o := .cells #[.string t321, .slice Ao36 t322.length co36] 41 (0, 0)) u29_ hb); have n6_ := Aside0.mk (below_step u9_ hb); clear HO312; clear HO316; clear HO320; clear HO324; clear BK307; clear BK325; clear HB; have HO312 := n0_; have HO316 := n1_; have HO320 := n2_; have HO324 := n3_; have BK307 := n4_; have BK325 := n5_; have HB := n6_; clear n0_ n1_ n2_ n3_ n4_ n5_ n6_; (try clear hb); (try clear hb2); (try clear hk); (try clear hi)))
    go_ret
    exact ⟨u3_, u9_⟩
   ·rw [if_neg c19] at H
    have c19b0 : (t326 != t317) = false := by simpa using c19
    (try (have c19b1 : decide (t326 = t317) = true := by simpa using c19))
    (try (have c19b2 : (t326 == t317) = true := by simpa using c19))
    clear c19
    replace H := Option.bind_eq_some_iff.mp H
    obtain ⟨t327, A390, H⟩ := H
    replace H : ((laws_eqFieldS.f k t318 t327).bind fun t330 => (if t330 = true then ((laws_toDoc.f k a1_0 l1_1).bind fun bt331 => ((laws_eqDoc.f k t321 t322 bt331.1 bt331.2).bind fun t335 => (if t335 = true then (some true) else (some false)))) else (some false))) = some r := H
    have A39 := Aside0.mk A390
    clear A390
    replace H := Option.bind_eq_some_iff.mp H
    obtain ⟨t330, A400, H⟩ := H
    replace H : (if t330 = true then ((laws_toDoc.f k a1_0 l1_1).bind fun bt331 => ((laws_eqDoc.f k t321 t322 bt331.1 bt331.2).bind fun t335 => (if t335 = true then (some true) else (some false)))) else (some false)) = some r := H
    have A40 := Aside0.mk A400
    clear A400
    by_cases c41 : t330 = true
    ·subst c41
     have H1 : ((laws_toDoc.f k a1_0 l1_1).bind fun bt331 => ((laws_eqDoc.f k t321 t322 bt331.1 bt331.2).bind fun t335 => (if t335 = true then (some true) else (some false)))) = some r := by rw [if_pos rfl] at H; exact H
     clear H
     have H := H1
     clear H1
     replace H := Option.bind_eq_some_iff.mp H
     obtain ⟨⟨t331, t332⟩, A420, H⟩ := H
     replace H : ((laws_eqDoc.f k t321 t322 t331 t332).bind fun t335 => (if t335 = true then (some true) else (some false))) = some r := H
     have A42 := Aside0.mk A420
     clear A420
     replace H := Option.bind_eq_some_iff.mp H
     obtain ⟨t335, A430, H⟩ := H
     replace H : (if t335 = true then (some true) else (some false)) = some r := H
     have A43 := Aside0.mk A430
     clear A430
     by_cases c44 : t335 = true
     ·subst c44
      have H1 : (some true) = some r := by rw [if_pos rfl] at H; exact H
      clear H
      have H := H1
      clear H1
      obtain rfl := Option.some.inj H
      go_enter Tryd.func8, Tryd.ntmps8
      try go_wp2_with (first | ((with_reducible refine gate_dst (N := 3) rfl ?_); refine box_event ?hg (N := 3) ?hd (cs := #[.string a1_0, .slice A1_1 l1_1.length c1_1]) (t := 54) ?hr ?_; (case hd => rfl); (case hg => rfl); (case hr => first | (go_simp; done) | (go_simp; rfl)); intro gb307 hg w45 hbox hb; have n0_ := Aside0.mk (below_step u0_ hb); have n1_ := Aside0.mk (hbox); have n2_ := Aside0.mk ((by rw [hg]; exact (below_size u0_) : w.heap.size ≤ gb307)); have n3_ := n2_; clear HB; have HB := n0_; have BK307 := n1_; have GW307 := n2_; have GE307 := n3_; clear n0_ n1_ n2_ n3_; clear hb hbox hg) | ((with_reducible refine gate_callee (f := 35) rfl ?_); refine goesL_ (some 12) rfl rfl Tryd.func35 u7_ rfl #[.slice A0 l0.length c0, .int .i64 1048576] rfl u1_ ?_; (with_reducible refine (laws_szFieldS.calls k _ _ l0 1048576 t308 _ ?side1 ?side2 A3.out).mono ?_); (case side1 => repeat (first | exact (Kd.C_below HR0.out HB.out) | (with_reducible refine Kd.C_alloc ?_ _) | (with_reducible refine Kd.C_drewN ?_ _) | (with_reducible refine Kd.C_drew ?_))); (case side2 => exact HC0.out); rintro e w46 ⟨rfl, hb⟩; refine ⟨_, rfl, ?_⟩; have n0_ := Aside0.mk (blk_below (g := gb307) (o := .cells #[.string a1_0, .slice A1_1 l1_1.length c1_1] 54 (0, 0)) u5_ hb); have n1_ := Aside0.mk (below_step u4_ hb); clear BK307; clear HB; have BK307 := n0_; have HB := n1_; clear n0_ n1_; (try clear hb); (try clear hb2); (try clear hk); (try clear hi); have hcz47_0 : w46.cell? ⟨gb307, 0, none⟩ = some (.string a1_0) := (blk_cell BK307.out 0).trans rfl; have hcz47_1 : w46.cell? ⟨gb307, 1, none⟩ = some (.slice A1_1 l1_1.length c1_1) := (blk_cell BK307.out 1).trans rfl; have hfz47_0 := blk_frozen BK307.out 0; have hfz47_1 := blk_frozen BK307.out 1) | ((with_reducible refine gate_callee (f := 36) rfl ?_); refine goesL_ (some 17) rfl rfl Tryd.func36 u7_ rfl #[.agg #[.string a1_0, .slice A1_1 l1_1.length c1_1], .int .i64 t308] rfl u1_ ?_; (with_reducible refine (laws_szDoc.calls k a1_0 _ _ l1_1 t308 t309 _ ?side1 ?side2 A7.out).mono ?_); (case side1 => repeat (first | exact (Kd.C_below HR1_1.out HB.out) | (with_reducible refine Kd.C_alloc ?_ _) | (with_reducible refine Kd.C_drewN ?_ _) | (with_reducible refine Kd.C_drew ?_))); (case side2 => exact HC1_1.out); rintro e w48 ⟨rfl, hb⟩; refine ⟨_, rfl, ?_⟩; have n0_ := Aside0.mk (blk_below (g := gb307) (o := .cells #[.string a1_0, .slice A1_1 l1_1.length c1_1] 54 (0, 0)) u5_ hb); have n1_ := Aside0.mk (below_step u4_ hb); clear BK307; clear HB; have BK307 := n0_; have HB := n1_; clear n0_ n1_; (try clear hb); (try clear hb2); (try clear hk); (try clear hi)))
      have n0_ := Aside0.mk (blk_drew BK307.out)
      have n1_ := Aside0.mk (below_drew1 HB.out)
      clear BK307
      clear HB
      have BK307 := n0_
      have HB := n1_
      clear n0_ n1_
      refine start_ (n := 6) (S := fun w' => w'.cell? ⟨gb307, 0, none⟩ = some (.string a1_0) ∧ w'.cell? ⟨gb307, 1, none⟩ = some (.slice A1_1 l1_1.length c1_1)) (ds := []) #[false, false, false, false, false, false] u7_ rfl rfl ⟨(blk_cell BK307.out 0).trans rfl, (blk_cell BK307.out 1).trans rfl⟩ (fun hHeld => ?_)
      generalize w48.drew = w49 at BK307 HB hHeld ⊢
      refine pure_ (i := 0) (N := some 20) (v := ?_) (a' := ?_) #[true, false, false, false, false, false] rfl rfl u7_ (fun _ _ _ h => h) (Or.inl ⟨u39_, ?_⟩) ?_ ?_
      rotate_left
      ·intro w'
       go_simp
       with_reducible rfl
      rotate_left
      ·simp only [Act.put, List.setIfInBounds_toArray, List.set_cons_zero, List.set_cons_succ, i64_w, i32_w]
       rfl
      refine take_ (i := 2) (N := some 22) (v := ?_) (a' := ?_) #[true, false, true, false, false, false] rfl rfl u7_ (fun _ _ _ h => h) (Or.inl ⟨u39_, ?_⟩) hHeld ?_ ?_
      rotate_left
      ·rintro w' ⟨s0, s1⟩
       go_simp
       with_reducible rfl
      rotate_left
      ·simp only [Act.put, List.setIfInBounds_toArray, List.set_cons_zero, List.set_cons_succ, i64_w, i32_w]
       rfl
      refine one_ (i := 1) (N := some 21) #[true, true, true, false, false, false] rfl rfl u7_ u64_ (fun K hK => ?_)
      refine goes_ Tryd.func37 u7_ rfl #[.slice A0 l0.length c0] u39_ rfl rfl u1_ ?_
      with_reducible refine (laws_toFieldS.calls k _ _ l0 t310 _ ?side1 ?side2 A13.out).mono ?_
      (case side1 => repeat (first | exact (Kd.C_below HR0.out HB.out) | (with_reducible refine Kd.C_alloc ?_ _) | (with_reducible refine Kd.C_drewN ?_ _) | (with_reducible refine Kd.C_drew ?_)))
      (case side2 => exact HC0.out)
      rintro e w50 ⟨v311, rfl, ho0, hb⟩
      refine ⟨_, rfl, ?_⟩
      have n0_ := Aside0.mk (Kd.R_lower ho0 (below_size u4_))
      have n1_ := Aside0.mk (blk_below (g := gb307) (o := .cells #[.string a1_0, .slice A1_1 l1_1.length c1_1] 54 (0, 0)) u5_ hb)
      have n2_ := Aside0.mk (below_step u4_ hb)
      clear BK307
      clear HB
      have HO312 := n0_
      have BK307 := n1_
      have HB := n2_
      clear n0_ n1_ n2_
      (try clear hb)
      (try clear hb2)
      (try clear hk)
      (try clear hi)
      (try clear ho0)
      refine hK.out _ _ ⟨(blk_cell BK307.out 0).trans rfl, (blk_cell BK307.out 1).trans rfl⟩ (fun hHeld => ?_)
      clear hK K
      refine norm_ (a' := ?_) ?_ ?_
      rotate_left
      ·show Act.put _ (some 21) _ = _
       simp only [Act.put, List.setIfInBounds_toArray, List.set_cons_zero, List.set_cons_succ, i64_w, i32_w]
       rfl
      refine one_ (i := 3) (N := some 23) #[true, true, true, true, false, false] rfl rfl u7_ u64_ (fun K hK => ?_)
      refine goes_ Tryd.func38 u7_ rfl #[.agg #[.string a1_0, .slice A1_1 l1_1.length c1_1]] u39_ rfl rfl u1_ ?_
      with_reducible refine (laws_toDoc.calls k a1_0 _ _ l1_1 t313 t314 _ ?side1 ?side2 A14.out).mono ?_
      (case side1 => repeat (first | exact (Kd.C_below HR1_1.out HB.out) | (with_reducible refine Kd.C_alloc ?_ _) | (with_reducible refine Kd.C_drewN ?_ _) | (with_reducible refine Kd.C_drew ?_)))
      (case side2 => exact HC1_1.out)
      rintro e w51 ⟨v315, rfl, ho0, hb⟩
      refine ⟨_, rfl, ?_⟩
      have n0_ := Aside0.mk (Kd.R_below u14_ hb)
      have n1_ := Aside0.mk (Kd.R_lower ho0 (below_size u4_))
      have n2_ := Aside0.mk (blk_below (g := gb307) (o := .cells #[.string a1_0, .slice A1_1 l1_1.length c1_1] 54 (0, 0)) u5_ hb)
      have n3_ := Aside0.mk (below_step u4_ hb)
      clear HO312
      clear BK307
      clear HB
      have HO312 := n0_
      have HO316 := n1_
      have BK307 := n2_
      have HB := n3_
      clear n0_ n1_ n2_ n3_
      (try clear hb)
      (try clear hb2)
      (try clear hk)
      (try clear hi)
      (try clear ho0)
      obtain ⟨Ao52, co52, eo52⟩ := Kd.R_slice HO312.out
      (first | subst eo52 | (injection eo52 with f1_ f2_ f3_; have f4_ := f1_.symm; have f5_ := f3_.symm; clear f1_ f2_ f3_; subst f4_; subst f5_))
      obtain ⟨Ao53, co53, eo53⟩ := Kd.R_slice HO316.out
      (first | subst eo53 | (injection eo53 with f1_ f2_ f3_; have f4_ := f1_.symm; have f5_ := f3_.symm; clear f1_ f2_ f3_; subst f4_; subst f5_))
      refine hK.out _ _ ⟨(blk_cell BK307.out 0).trans rfl, (blk_cell BK307.out 1).trans rfl⟩ (fun hHeld => ?_)
      clear hK K
      refine norm_ (a' := ?_) ?_ ?_
      rotate_left
      ·show Act.put _ (some 23) _ = _
       simp only [Act.put, List.setIfInBounds_toArray, List.set_cons_zero, List.set_cons_succ, i64_w, i32_w]
       rfl
      refine one_ (i := 4) (N := some 24) #[true, true, true, true, true, false] rfl rfl u7_ u64_ (fun K hK => ?_)
      refine goes_ Tryd.func27 u7_ rfl #[.slice Ao52 t310.length co52, .agg #[.string t313, .slice Ao53 t314.length co53]] u39_ rfl rfl u1_ ?_
      with_reducible refine (spec_DocOk.calls k _ _ t310 t313 _ _ t314 t317 _ ?side1 ?side2 ?side3 ?side4 A15.out).mono ?_
      (case side1 => repeat (first | exact (Kd.R_reads' HO312.out).2.2 | (with_reducible refine Kd.C_alloc ?_ _) | (with_reducible refine Kd.C_drewN ?_ _) | (with_reducible refine Kd.C_drew ?_)))
      (case side2 => exact (Kd.R_reads' HO312.out).2.1)
      (case side3 => repeat (first | exact (Kd.R_reads' HO316.out).2.2 | (with_reducible refine Kd.C_alloc ?_ _) | (with_reducible refine Kd.C_drewN ?_ _) | (with_reducible refine Kd.C_drew ?_)))
      (case side4 => exact (Kd.R_reads' HO316.out).2.1)
      rintro e w54 ⟨rfl, hb⟩
      refine ⟨_, rfl, ?_⟩
      have n0_ := Aside0.mk (Kd.R_below u14_ hb)
      have n1_ := Aside0.mk (Kd.R_below u18_ hb)
      have n2_ := Aside0.mk (blk_below (g := gb307) (o := .cells #[.string a1_0, .slice A1_1 l1_1.length c1_1] 54 (0, 0)) u5_ hb)
      have n3_ := Aside0.mk (below_step u4_ hb)
      clear HO312
      clear HO316
      clear BK307
      clear HB
      have HO312 := n0_
      have HO316 := n1_
      have BK307 := n2_
      have HB := n3_
      clear n0_ n1_ n2_ n3_
      (try clear hb)
      (try clear hb2)
      (try clear hk)
      (try clear hi)
      refine hK.out _ _ ⟨(blk_cell BK307.out 0).trans rfl, (blk_cell BK307.out 1).trans rfl⟩ (fun hHeld => ?_)
      clear hK K
      refine norm_ (a' := ?_) ?_ ?_
      rotate_left
      ·show Act.put _ (some 24) _ = _
       simp only [Act.put, List.setIfInBounds_toArray, List.set_cons_zero, List.set_cons_succ, i64_w, i32_w]
       rfl
      refine pure_ (i := 5) (N := some 6) (v := ?_) (a' := ?_) #[true, true, true, true, true, true] rfl rfl u7_ (fun _ _ _ h => h) (Or.inl ⟨u39_, ?_⟩) ?_ ?_
      rotate_left
      ·intro w'
       go_simp
       with_reducible rfl
      rotate_left
      ·simp only [Act.put, List.setIfInBounds_toArray, List.set_cons_zero, List.set_cons_succ, i64_w, i32_w]
       rfl
      refine done_ u7_ ?_
      try go_wp2_with (first | ((with_reducible refine gate_callee (f := 37) rfl ?_); refine goesL_ (some 26) rfl rfl Tryd.func37 u7_ rfl #[.slice A0 l0.length c0] rfl u1_ ?_; (with_reducible refine (laws_toFieldS.calls k _ _ l0 t318 _ ?side1 ?side2 A16.out).mono ?_); (case side1 => repeat (first | exact (Kd.C_below HR0.out HB.out) | (with_reducible refine Kd.C_alloc ?_ _) | (with_reducible refine Kd.C_drewN ?_ _) | (with_reducible refine Kd.C_drew ?_))); (case side2 => exact HC0.out); rintro e w55 ⟨v319, rfl, ho0, hb⟩; refine ⟨_, rfl, ?_⟩; have n0_ := Aside0.mk (Kd.R_elder' u14_ (Kd.R_base ho0) hb); have n1_ := Aside0.mk (Kd.R_below u18_ hb); have n2_ := Aside0.mk (Kd.R_lower (Kd.R_new' ho0 (Kd.R_lt u14_)) (below_size u4_)); have n3_ := Aside0.mk (blk_below (g := gb307) (o := .cells #[.string a1_0, .slice A1_1 l1_1.length c1_1] 54 (0, 0)) u5_ hb); have n4_ := Aside0.mk (below_step u4_ hb); clear HO312; clear HO316; clear BK307; clear HB; have HO312 := n0_; have HO316 := n1_; have HO320 := n2_; have BK307 := n3_; have HB := n4_; clear n0_ n1_ n2_ n3_ n4_; (try clear hb); (try clear hb2); (try clear hk); (try clear hi); (try clear ho0); have hcz56_0 : w55.cell? ⟨gb307, 0, none⟩ = some (.string a1_0) := (blk_cell BK307.out 0).trans rfl; have hcz56_1 : w55.cell? ⟨gb307, 1, none⟩ = some (.slice A1_1 l1_1.length c1_1) := (blk_cell BK307.out 1).trans rfl; have hfz56_0 := blk_frozen BK307.out 0; have hfz56_1 := blk_frozen BK307.out 1) | ((with_reducible refine gate_callee (f := 38) rfl ?_); refine goesL_ (some 28) rfl rfl Tryd.func38 u7_ rfl #[.agg #[.string a1_0, .slice A1_1 l1_1.length c1_1]] rfl u1_ ?_; (with_reducible refine (laws_toDoc.calls k a1_0 _ _ l1_1 t321 t322 _ ?side1 ?side2 A17.out).mono ?_); (case side1 => repeat (first | exact (Kd.C_below HR1_1.out HB.out) | (with_reducible refine Kd.C_alloc ?_ _) | (with_reducible refine Kd.C_drewN ?_ _) | (with_reducible refine Kd.C_drew ?_))); (case side2 => exact HC1_1.out); rintro e w57 ⟨v323, rfl, ho0, hb⟩; refine ⟨_, rfl, ?_⟩; have n0_ := Aside0.mk (Kd.R_below u14_ hb); have n1_ := Aside0.mk (Kd.R_elder' u18_ (Kd.R_base ho0) hb); have n2_ := Aside0.mk (Kd.R_below u24_ hb); have n3_ := Aside0.mk (Kd.R_lower (Kd.R_new' ho0 (Kd.R_lt u18_)) (below_size u4_)); have n4_ := Aside0.mk (blk_below (g := gb307) (o := .cells #[.string a1_0, .slice A1_1 l1_1.length c1_1] 54 (0, 0)) u5_ hb); have n5_ := Aside0.mk (below_step u4_ hb); clear HO312; clear HO316; clear HO320; clear BK307; clear HB; have HO312 := n0_; have HO316 := n1_; have HO320 := n2_; have HO324 := n3_; have BK307 := n4_; have HB := n5_; clear n0_ n1_ n2_ n3_ n4_ n5_; (try clear hb); (try clear hb2); (try clear hk); (try clear hi); (try clear ho0)) | ((with_reducible refine gate_dst (N := 8) rfl ?_); refine box_event ?hg (N := 8) ?hd (cs := #[.string (⟨#[]⟩ : ByteArray), .slice none 0 0]) (t := 41) ?hr ?_; (case hd => rfl); (case hg => rfl); (case hr => first | (go_simp; done) | (go_simp; rfl)); intro gb325 hg w58 hbox hb; have n0_ := Aside0.mk (Kd.R_below u14_ hb); have n1_ := Aside0.mk (Kd.R_below u18_ hb); have n2_ := Aside0.mk (Kd.R_below u24_ hb); have n3_ := Aside0.mk (Kd.R_below u28_ hb); have n4_ := Aside0.mk (blk_below (g := gb307) (o := .cells #[.string a1_0, .slice A1_1 l1_1.length c1_1] 54 (0, 0)) u5_ hb); have n5_ := Aside0.mk (below_step u4_ hb); have n6_ := Aside0.mk (hbox); have n7_ := Aside0.mk ((by rw [hg]; exact (below_size u4_) : w.heap.size ≤ gb325)); have n8_ := Aside0.mk ((by rw [hg]; exact (below_size u4_) : w.heap.size ≤ gb325)); have n9_ := Aside0.mk ((by rw [hg]; exact Nat.ne_of_lt (blk_lt (g := gb307) (o := .cells #[.string a1_0, .slice A1_1 l1_1.length c1_1] 54 (0, 0)) u5_) : gb307 ≠ gb325)); have n10_ := Aside0.mk ((by rw [hg]; exact Nat.ne_of_gt (blk_lt (g := gb307) (o := .cells #[.string a1_0, .slice A1_1 l1_1.length c1_1] 54 (0, 0)) u5_) : gb325 ≠ gb307)); clear HO312; clear HO316; clear HO320; clear HO324; clear BK307; clear HB; have HO312 := n0_; have HO316 := n1_; have HO320 := n2_; have HO324 := n3_; have BK307 := n4_; have HB := n5_; have BK325 := n6_; have GW325 := n7_; have GE325 := n8_; have NB307_325 := n9_; have NB325_307 := n10_; clear n0_ n1_ n2_ n3_ n4_ n5_ n6_ n7_ n8_ n9_ n10_; clear hb hbox hg; have hnb59 := NB325_307.out; have hnc59 := NB307_325.out; have hcz60_0 : w58.cell? ⟨gb325, 0, none⟩ = some (.string (⟨#[]⟩ : ByteArray)) := (blk_cell BK325.out 0).trans rfl; have hcz60_1 : w58.cell? ⟨gb325, 1, none⟩ = some (.slice none 0 0) := (blk_cell BK325.out 1).trans rfl; have hfz60_0 := blk_frozen BK325.out 0; have hfz60_1 := blk_frozen BK325.out 1; obtain ⟨Ao61, co61, eo61⟩ := Kd.R_slice HO324.out; subst eo61; obtain ⟨Ao62, co62, eo62⟩ := Kd.R_slice HO320.out; subst eo62) | ((with_reducible refine gate_callee (f := 26) rfl ?_); refine goesL_ (some 31) rfl rfl Tryd.func26 u7_ rfl #[.slice Ao62 t318.length co62, .agg #[.string t321, .slice Ao61 t322.length co61]] rfl u1_ ?_; (with_reducible refine (impl_DocOk.calls k _ _ t318 t321 _ _ t322 t326 _ ?side1 ?side2 ?side3 ?side4 ?side5 A18.out).mono ?_); (case side1 => exact StopsIn.below HG_.out u9_); (case side2 => refine (Kd.R_reads' (e := 75) (base := w.heap.size) (ok := fun k_ => (True ∧ some k_ ≠ (.slice Ao52 t310.length co52 : Value).ownBlock)) (n := t318.length) (c := co62) ?_).2.2; exact u93_); (case side3 => exact (Kd.R_reads' HO320.out).2.1); (case side4 => refine (Kd.R_reads' (e := 46) (base := w.heap.size) (ok := fun k_ => (True ∧ some k_ ≠ (.slice Ao53 t314.length co53 : Value).ownBlock)) (n := t322.length) (c := co61) ?_).2.2; exact u94_); (case side5 => exact (Kd.R_reads' HO324.out).2.1); rintro e w63 ⟨rfl, hb⟩; refine ⟨_, rfl, ?_⟩; have n0_ := Aside0.mk (Kd.R_below (by (with_reducible repeat (first | apply Kd.R_alloc | apply Kd.R_drewN | apply Kd.R_drew)); exact (Kd.R_mono (Kd.R_far (p := ⟨gb325, 1, none⟩) (Kd.R_far (p := ⟨gb325, 0, none⟩) (Kd.R_types HO312.out BK325.out u64_) (fun _ hk => hk.2) (.string t321)) (fun _ hk => hk.2) (.slice Ao61 t322.length co61)) (fun _ h_ => h_.1))) hb); have n1_ := Aside0.mk (Kd.R_below (by (with_reducible repeat (first | apply Kd.R_alloc | apply Kd.R_drewN | apply Kd.R_drew)); exact (Kd.R_mono (Kd.R_far (p := ⟨gb325, 1, none⟩) (Kd.R_far (p := ⟨gb325, 0, none⟩) (Kd.R_types HO316.out BK325.out u64_) (fun _ hk => hk.2) (.string t321)) (fun _ hk => hk.2) (.slice Ao61 t322.length co61)) (fun _ h_ => h_.1))) hb); have n2_ := Aside0.mk (Kd.R_below u93_ hb); have n3_ := Aside0.mk (Kd.R_below u94_ hb); have n4_ := Aside0.mk (blk_below (g := gb307) (o := .cells #[.string a1_0, .slice A1_1 l1_1.length c1_1] 54 (0, 0)) u36_ hb); have n5_ := Aside0.mk (blk_below (g := gb325) (o := .cells #[.string t321, .slice Ao61 t322.length co61] 41 (0, 0)) u29_ hb); have n6_ := Aside0.mk (below_step u9_ hb); clear HO312; clear HO316; clear HO320; clear HO324; clear BK307; clear BK325; clear HB; have HO312 := n0_; have HO316 := n1_; have HO320 := n2_; have HO324 := n3_; have BK307 := n4_; have BK325 := n5_; have HB := n6_; clear n0_ n1_ n2_ n3_ n4_ n5_ n6_; (try clear hb); (try clear hb2); (try clear hk); (try clear hi)) | ((with_reducible refine gate_callee (f := 37) rfl ?_); refine goesL_ (some 37) rfl rfl Tryd.func37 u7_ rfl #[.slice A0 l0.length c0] rfl u1_ ?_; (with_reducible refine (laws_toFieldS.calls k _ _ l0 t327 _ ?side1 ?side2 A39.out).mono ?_); (case side1 => repeat (first | exact (Kd.C_below HR0.out HB.out) | (with_reducible refine Kd.C_alloc ?_ _) | (with_reducible refine Kd.C_drewN ?_ _) | (with_reducible refine Kd.C_drew ?_))); (case side2 => exact HC0.out); rintro e w64 ⟨v328, rfl, ho0, hb⟩; refine ⟨_, rfl, ?_⟩; have n0_ := Aside0.mk (Kd.R_elder' u14_ (Kd.R_base ho0) hb); have n1_ := Aside0.mk (Kd.R_below u18_ hb); have n2_ := Aside0.mk (Kd.R_elder' u24_ (Kd.R_base ho0) hb); have n3_ := Aside0.mk (Kd.R_below u28_ hb); have n4_ := Aside0.mk (Kd.R_lower (Kd.R_new' (Kd.R_new' ho0 (Kd.R_lt u14_)) (Kd.R_lt u24_)) (below_size u9_)); have n5_ := Aside0.mk (blk_below (g := gb307) (o := .cells #[.string a1_0, .slice A1_1 l1_1.length c1_1] 54 (0, 0)) u5_ hb); have n6_ := Aside0.mk (blk_below (g := gb325) (o := .cells #[.string t321, .slice Ao61 t322.length co61] 41 (0, 0)) u41_ hb); have n7_ := Aside0.mk (below_step u9_ hb); clear HO312; clear HO316; clear HO320; clear HO324; clear BK307; clear BK325; clear HB; have HO312 := n0_; have HO316 := n1_; have HO320 := n2_; have HO324 := n3_; have HO329 := n4_; have BK307 := n5_; have BK325 := n6_; have HB := n7_; clear n0_ n1_ n2_ n3_ n4_ n5_ n6_ n7_; (try clear hb); (try clear hb2); (try clear hk); (try clear hi); (try clear ho0); obtain ⟨Ao65, co65, eo65⟩ := Kd.R_slice HO329.out; subst eo65) | ((with_reducible refine gate_callee (f := 22) rfl ?_); refine goesL_ (some 38) rfl rfl Tryd.func22 u7_ rfl #[.slice Ao62 t318.length co62, .slice Ao65 t327.length co65] rfl u1_ ?_; (with_reducible refine (laws_eqFieldS.calls k _ _ t318 _ _ t327 true _ ?side1 ?side2 ?side3 ?side4 A40.out).mono ?_); (case side1 => repeat (first | exact (Kd.R_reads' HO320.out).2.2 | (with_reducible refine Kd.C_alloc ?_ _) | (with_reducible refine Kd.C_drewN ?_ _) | (with_reducible refine Kd.C_drew ?_))); (case side2 => exact (Kd.R_reads' HO320.out).2.1); (case side3 => repeat (first | exact (Kd.R_reads' HO329.out).2.2 | (with_reducible refine Kd.C_alloc ?_ _) | (with_reducible refine Kd.C_drewN ?_ _) | (with_reducible refine Kd.C_drew ?_))); (case side4 => exact (Kd.R_reads' HO329.out).2.1); rintro e w66 ⟨rfl, hb⟩; refine ⟨_, rfl, ?_⟩; have n0_ := Aside0.mk (Kd.R_below u14_ hb); have n1_ := Aside0.mk (Kd.R_below u18_ hb); have n2_ := Aside0.mk (Kd.R_below u24_ hb); have n3_ := Aside0.mk (Kd.R_below u28_ hb); have n4_ := Aside0.mk (Kd.R_below u59_ hb); have n5_ := Aside0.mk (blk_below (g := gb307) (o := .cells #[.string a1_0, .slice A1_1 l1_1.length c1_1] 54 (0, 0)) u5_ hb); have n6_ := Aside0.mk (blk_below (g := gb325) (o := .cells #[.string t321, .slice Ao61 t322.length co61] 41 (0, 0)) u41_ hb); have n7_ := Aside0.mk (below_step u9_ hb); clear HO312; clear HO316; clear HO320; clear HO324; clear HO329; clear BK307; clear BK325; clear HB; have HO312 := n0_; have HO316 := n1_; have HO320 := n2_; have HO324 := n3_; have HO329 := n4_; have BK307 := n5_; have BK325 := n6_; have HB := n7_; clear n0_ n1_ n2_ n3_ n4_ n5_ n6_ n7_; (try clear hb); (try clear hb2); (try clear hk); (try clear hi)))
      have n0_ := Aside0.mk (Kd.R_drew HO312.out)
      have n1_ := Aside0.mk (Kd.R_drew HO316.out)
      have n2_ := Aside0.mk (Kd.R_drew HO320.out)
      have n3_ := Aside0.mk (Kd.R_drew HO324.out)
      have n4_ := Aside0.mk (Kd.R_drew HO329.out)
      have n5_ := Aside0.mk (blk_drew BK307.out)
      have n6_ := Aside0.mk (blk_drew BK325.out)
      have n7_ := Aside0.mk (below_drew1 HB.out)
      clear HO312
      clear HO316
      clear HO320
      clear HO324
      clear HO329
      clear BK307
      clear BK325
      clear HB
      have HO312 := n0_
      have HO316 := n1_
      have HO320 := n2_
      have HO324 := n3_
      have HO329 := n4_
      have BK307 := n5_
      have BK325 := n6_
      have HB := n7_
      clear n0_ n1_ n2_ n3_ n4_ n5_ n6_ n7_
      refine start_ (n := 5) (S := fun w' => w'.cell? ⟨gb325, 0, none⟩ = some (.string t321) ∧ w'.cell? ⟨gb325, 1, none⟩ = some (.slice Ao61 t322.length co61) ∧ w'.cell? ⟨gb307, 0, none⟩ = some (.string a1_0) ∧ w'.cell? ⟨gb307, 1, none⟩ = some (.slice A1_1 l1_1.length c1_1)) (ds := []) #[false, false, false, false, false] u7_ rfl rfl ⟨(blk_cell BK325.out 0).trans rfl, (blk_cell BK325.out 1).trans rfl, (blk_cell BK307.out 0).trans rfl, (blk_cell BK307.out 1).trans rfl⟩ (fun hHeld => ?_)
      generalize w66.drew = w67 at HO312 HO316 HO320 HO324 HO329 BK307 BK325 HB hHeld ⊢
      refine take_ (i := 0) (N := some 40) (v := ?_) (a' := ?_) #[true, false, false, false, false] rfl rfl u7_ (fun _ _ _ h => h) (Or.inl ⟨u39_, ?_⟩) hHeld ?_ ?_
      rotate_left
      ·rintro w' ⟨s0, s1, s2, s3⟩
       go_simp
       with_reducible rfl
      rotate_left
      ·simp only [Act.put, List.setIfInBounds_toArray, List.set_cons_zero, List.set_cons_succ, i64_w, i32_w]
       rfl
      refine take_ (i := 1) (N := some 41) (v := ?_) (a' := ?_) #[true, true, false, false, false] rfl rfl u7_ (fun _ _ _ h => h) (Or.inl ⟨u39_, ?_⟩) hHeld ?_ ?_
      rotate_left
      ·rintro w' ⟨s0, s1, s2, s3⟩
       go_simp
       with_reducible rfl
      rotate_left
      ·simp only [Act.put, List.setIfInBounds_toArray, List.set_cons_zero, List.set_cons_succ, i64_w, i32_w]
       rfl
      refine one_ (i := 2) (N := some 42) #[true, true, true, false, false] rfl rfl u7_ u64_ (fun K hK => ?_)
      refine goes_ Tryd.func38 u7_ rfl #[.agg #[.string a1_0, .slice A1_1 l1_1.length c1_1]] u39_ rfl rfl u1_ ?_
      with_reducible refine (laws_toDoc.calls k a1_0 _ _ l1_1 t331 t332 _ ?side1 ?side2 A42.out).mono ?_
      (case side1 => repeat (first | exact (Kd.C_below HR1_1.out HB.out) | (with_reducible refine Kd.C_alloc ?_ _) | (with_reducible refine Kd.C_drewN ?_ _) | (with_reducible refine Kd.C_drew ?_)))
      (case side2 => exact HC1_1.out)
      rintro e w68 ⟨v333, rfl, ho0, hb⟩
      refine ⟨_, rfl, ?_⟩
      have n0_ := Aside0.mk (Kd.R_below u14_ hb)
      have n1_ := Aside0.mk (Kd.R_elder' u18_ (Kd.R_base ho0) hb)
      have n2_ := Aside0.mk (Kd.R_below u24_ hb)
      have n3_ := Aside0.mk (Kd.R_elder' u28_ (Kd.R_base ho0) hb)
      have n4_ := Aside0.mk (Kd.R_below u59_ hb)
      have n5_ := Aside0.mk (Kd.R_lower (Kd.R_new' (Kd.R_new' ho0 (Kd.R_lt u18_)) (Kd.R_lt u28_)) (below_size u9_))
      have n6_ := Aside0.mk (blk_below (g := gb307) (o := .cells #[.string a1_0, .slice A1_1 l1_1.length c1_1] 54 (0, 0)) u5_ hb)
      have n7_ := Aside0.mk (blk_below (g := gb325) (o := .cells #[.string t321, .slice Ao61 t322.length co61] 41 (0, 0)) u41_ hb)
      have n8_ := Aside0.mk (below_step u9_ hb)
      clear HO312
      clear HO316
      clear HO320
      clear HO324
      clear HO329
      clear BK307
      clear BK325
      clear HB
      have HO312 := n0_
      have HO316 := n1_
      have HO320 := n2_
      have HO324 := n3_
      have HO329 := n4_
      have HO334 := n5_
      have BK307 := n6_
      have BK325 := n7_
      have HB := n8_
      clear n0_ n1_ n2_ n3_ n4_ n5_ n6_ n7_ n8_
      (try clear hb)
      (try clear hb2)
      (try clear hk)
      (try clear hi)
      (try clear ho0)
      obtain ⟨Ao69, co69, eo69⟩ := Kd.R_slice HO334.out
      (first | subst eo69 | (injection eo69 with f1_ f2_ f3_; have f4_ := f1_.symm; have f5_ := f3_.symm; clear f1_ f2_ f3_; subst f4_; subst f5_))
      refine hK.out _ _ ⟨(blk_cell BK325.out 0).trans rfl, (blk_cell BK325.out 1).trans rfl, (blk_cell BK307.out 0).trans rfl, (blk_cell BK307.out 1).trans rfl⟩ (fun hHeld => ?_)
      clear hK K
      refine norm_ (a' := ?_) ?_ ?_
      rotate_left
      ·show Act.put _ (some 42) _ = _
       simp only [Act.put, List.setIfInBounds_toArray, List.set_cons_zero, List.set_cons_succ, i64_w, i32_w]
       rfl
      refine one_ (i := 3) (N := some 43) #[true, true, true, true, false] rfl rfl u7_ u64_ (fun K hK => ?_)
      refine goes_ Tryd.func39 u7_ rfl #[.agg #[.string t321, .slice Ao61 t322.length co61], .agg #[.string t331, .slice Ao69 t332.length co69]] u39_ rfl rfl u1_ ?_
      with_reducible refine (laws_eqDoc.calls k t321 _ _ t322 t331 _ _ t332 true _ ?side1 ?side2 ?side3 ?side4 A43.out).mono ?_
      (case side1 => repeat (first | exact (Kd.R_reads' HO324.out).2.2 | (with_reducible refine Kd.C_alloc ?_ _) | (with_reducible refine Kd.C_drewN ?_ _) | (with_reducible refine Kd.C_drew ?_)))
      (case side2 => exact (Kd.R_reads' HO324.out).2.1)
      (case side3 => repeat (first | exact (Kd.R_reads' HO334.out).2.2 | (with_reducible refine Kd.C_alloc ?_ _) | (with_reducible refine Kd.C_drewN ?_ _) | (with_reducible refine Kd.C_drew ?_)))
      (case side4 => exact (Kd.R_reads' HO334.out).2.1)
      rintro e w70 ⟨rfl, hb⟩
      refine ⟨_, rfl, ?_⟩
      have n0_ := Aside0.mk (Kd.R_below u14_ hb)
      have n1_ := Aside0.mk (Kd.R_below u18_ hb)
      have n2_ := Aside0.mk (Kd.R_below u24_ hb)
      have n3_ := Aside0.mk (Kd.R_below u28_ hb)
      have n4_ := Aside0.mk (Kd.R_below u59_ hb)
      have n5_ := Aside0.mk (Kd.R_below (by (with_reducible repeat (first | apply Kd.R_alloc | apply Kd.R_drewN | apply Kd.R_drew)); exact HO334.out) hb)
      have n6_ := Aside0.mk (blk_below (g := gb307) (o := .cells #[.string a1_0, .slice A1_1 l1_1.length c1_1] 54 (0, 0)) u5_ hb)
      have n7_ := Aside0.mk (blk_below (g := gb325) (o := .cells #[.string t321, .slice Ao61 t322.length co61] 41 (0, 0)) u41_ hb)
      have n8_ := Aside0.mk (below_step u9_ hb)
      clear HO312
      clear HO316
      clear HO320
      clear HO324
      clear HO329
      clear HO334
      clear BK307
      clear BK325
      clear HB
      have HO312 := n0_
      have HO316 := n1_
      have HO320 := n2_
      have HO324 := n3_
      have HO329 := n4_
      have HO334 := n5_
      have BK307 := n6_
      have BK325 := n7_
      have HB := n8_
      clear n0_ n1_ n2_ n3_ n4_ n5_ n6_ n7_ n8_
      (try clear hb)
      (try clear hb2)
      (try clear hk)
      (try clear hi)
      refine hK.out _ _ ⟨(blk_cell BK325.out 0).trans rfl, (blk_cell BK325.out 1).trans rfl, (blk_cell BK307.out 0).trans rfl, (blk_cell BK307.out 1).trans rfl⟩ (fun hHeld => ?_)
      clear hK K
      refine norm_ (a' := ?_) ?_ ?_
      rotate_left
      ·show Act.put _ (some 43) _ = _
       simp only [Act.put, List.setIfInBounds_toArray, List.set_cons_zero, List.set_cons_succ, i64_w, i32_w]
       rfl
      refine pure_ (i := 4) (N := some 44) (v := ?_) (a' := ?_) #[true, true, true, true, true] rfl rfl u7_ (fun _ _ _ h => h) (Or.inl ⟨u39_, ?_⟩) ?_ ?_
      rotate_left
      ·intro w'
       go_simp
       with_reducible rfl
      rotate_left
      ·simp only [Act.put, List.setIfInBounds_toArray, List.set_cons_zero, List.set_cons_succ, i64_w, i32_w]
       rfl
      refine done_ u7_ ?_
      try go_wp2
      go_ret
      exact ⟨u3_, u9_⟩
     ·replace c44 := Bool.eq_false_iff.mpr c44
      subst c44
      have H1 : (some false) = some r := by rw [if_neg (show ¬ (false = true) by decide)] at H; exact H
      clear H
      have H := H1
      clear H1
      obtain rfl := Option.some.inj H
      go_enter Tryd.func8, Tryd.ntmps8
      try go_wp2_with (first | ((with_reducible refine gate_dst (N := 3) rfl ?_); refine box_event ?hg (N := 3) ?hd (cs := #[.string a1_0, .slice A1_1 l1_1.length c1_1]) (t := 54) ?hr ?_; (case hd => rfl); (case hg => rfl); (case hr => first | (go_simp; done) | (go_simp; rfl)); intro gb307 hg w71 hbox hb; have n0_ := Aside0.mk (below_step u0_ hb); have n1_ := Aside0.mk (hbox); have n2_ := Aside0.mk ((by rw [hg]; exact (below_size u0_) : w.heap.size ≤ gb307)); have n3_ := n2_; clear HB; have HB := n0_; have BK307 := n1_; have GW307 := n2_; have GE307 := n3_; clear n0_ n1_ n2_ n3_; clear hb hbox hg) | ((with_reducible refine gate_callee (f := 35) rfl ?_); refine goesL_ (some 12) rfl rfl Tryd.func35 u7_ rfl #[.slice A0 l0.length c0, .int .i64 1048576] rfl u1_ ?_; (with_reducible refine (laws_szFieldS.calls k _ _ l0 1048576 t308 _ ?side1 ?side2 A3.out).mono ?_); (case side1 => repeat (first | exact (Kd.C_below HR0.out HB.out) | (with_reducible refine Kd.C_alloc ?_ _) | (with_reducible refine Kd.C_drewN ?_ _) | (with_reducible refine Kd.C_drew ?_))); (case side2 => exact HC0.out); rintro e w72 ⟨rfl, hb⟩; refine ⟨_, rfl, ?_⟩; have n0_ := Aside0.mk (blk_below (g := gb307) (o := .cells #[.string a1_0, .slice A1_1 l1_1.length c1_1] 54 (0, 0)) u5_ hb); have n1_ := Aside0.mk (below_step u4_ hb); clear BK307; clear HB; have BK307 := n0_; have HB := n1_; clear n0_ n1_; (try clear hb); (try clear hb2); (try clear hk); (try clear hi); have hcz73_0 : w72.cell? ⟨gb307, 0, none⟩ = some (.string a1_0) := (blk_cell BK307.out 0).trans rfl; have hcz73_1 : w72.cell? ⟨gb307, 1, none⟩ = some (.slice A1_1 l1_1.length c1_1) := (blk_cell BK307.out 1).trans rfl; have hfz73_0 := blk_frozen BK307.out 0; have hfz73_1 := blk_frozen BK307.out 1) | ((with_reducible refine gate_callee (f := 36) rfl ?_); refine goesL_ (some 17) rfl rfl Tryd.func36 u7_ rfl #[.agg #[.string a1_0, .slice A1_1 l1_1.length c1_1], .int .i64 t308] rfl u1_ ?_; (with_reducible refine (laws_szDoc.calls k a1_0 _ _ l1_1 t308 t309 _ ?side1 ?side2 A7.out).mono ?_); (case side1 => repeat (first | exact (Kd.C_below HR1_1.out HB.out) | (with_reducible refine Kd.C_alloc ?_ _) | (with_reducible refine Kd.C_drewN ?_ _) | (with_reducible refine Kd.C_drew ?_))); (case side2 => exact HC1_1.out); rintro e w74 ⟨rfl, hb⟩; refine ⟨_, rfl, ?_⟩; have n0_ := Aside0.mk (blk_below (g := gb307) (o := .cells #[.string a1_0, .slice A1_1 l1_1.length c1_1] 54 (0, 0)) u5_ hb); have n1_ := Aside0.mk (below_step u4_ hb); clear BK307; clear HB; have BK307 := n0_; have HB := n1_; clear n0_ n1_; (try clear hb); (try clear hb2); (try clear hk); (try clear hi)))
      have n0_ := Aside0.mk (blk_drew BK307.out)
      have n1_ := Aside0.mk (below_drew1 HB.out)
      clear BK307
      clear HB
      have BK307 := n0_
      have HB := n1_
      clear n0_ n1_
      refine start_ (n := 6) (S := fun w' => w'.cell? ⟨gb307, 0, none⟩ = some (.string a1_0) ∧ w'.cell? ⟨gb307, 1, none⟩ = some (.slice A1_1 l1_1.length c1_1)) (ds := []) #[false, false, false, false, false, false] u7_ rfl rfl ⟨(blk_cell BK307.out 0).trans rfl, (blk_cell BK307.out 1).trans rfl⟩ (fun hHeld => ?_)
      generalize w74.drew = w75 at BK307 HB hHeld ⊢
      refine pure_ (i := 0) (N := some 20) (v := ?_) (a' := ?_) #[true, false, false, false, false, false] rfl rfl u7_ (fun _ _ _ h => h) (Or.inl ⟨u39_, ?_⟩) ?_ ?_
      rotate_left
      ·intro w'
       go_simp
       with_reducible rfl
      rotate_left
      ·simp only [Act.put, List.setIfInBounds_toArray, List.set_cons_zero, List.set_cons_succ, i64_w, i32_w]
       rfl
      refine take_ (i := 2) (N := some 22) (v := ?_) (a' := ?_) #[true, false, true, false, false, false] rfl rfl u7_ (fun _ _ _ h => h) (Or.inl ⟨u39_, ?_⟩) hHeld ?_ ?_
      rotate_left
      ·rintro w' ⟨s0, s1⟩
       go_simp
       with_reducible rfl
      rotate_left
      ·simp only [Act.put, List.setIfInBounds_toArray, List.set_cons_zero, List.set_cons_succ, i64_w, i32_w]
       rfl
      refine one_ (i := 1) (N := some 21) #[true, true, true, false, false, false] rfl rfl u7_ u64_ (fun K hK => ?_)
      refine goes_ Tryd.func37 u7_ rfl #[.slice A0 l0.length c0] u39_ rfl rfl u1_ ?_
      with_reducible refine (laws_toFieldS.calls k _ _ l0 t310 _ ?side1 ?side2 A13.out).mono ?_
      (case side1 => repeat (first | exact (Kd.C_below HR0.out HB.out) | (with_reducible refine Kd.C_alloc ?_ _) | (with_reducible refine Kd.C_drewN ?_ _) | (with_reducible refine Kd.C_drew ?_)))
      (case side2 => exact HC0.out)
      rintro e w76 ⟨v311, rfl, ho0, hb⟩
      refine ⟨_, rfl, ?_⟩
      have n0_ := Aside0.mk (Kd.R_lower ho0 (below_size u4_))
      have n1_ := Aside0.mk (blk_below (g := gb307) (o := .cells #[.string a1_0, .slice A1_1 l1_1.length c1_1] 54 (0, 0)) u5_ hb)
      have n2_ := Aside0.mk (below_step u4_ hb)
      clear BK307
      clear HB
      have HO312 := n0_
      have BK307 := n1_
      have HB := n2_
      clear n0_ n1_ n2_
      (try clear hb)
      (try clear hb2)
      (try clear hk)
      (try clear hi)
      (try clear ho0)
      refine hK.out _ _ ⟨(blk_cell BK307.out 0).trans rfl, (blk_cell BK307.out 1).trans rfl⟩ (fun hHeld => ?_)
      clear hK K
      refine norm_ (a' := ?_) ?_ ?_
      rotate_left
      ·show Act.put _ (some 21) _ = _
       simp only [Act.put, List.setIfInBounds_toArray, List.set_cons_zero, List.set_cons_succ, i64_w, i32_w]
       rfl
      refine one_ (i := 3) (N := some 23) #[true, true, true, true, false, false] rfl rfl u7_ u64_ (fun K hK => ?_)
      refine goes_ Tryd.func38 u7_ rfl #[.agg #[.string a1_0, .slice A1_1 l1_1.length c1_1]] u39_ rfl rfl u1_ ?_
      with_reducible refine (laws_toDoc.calls k a1_0 _ _ l1_1 t313 t314 _ ?side1 ?side2 A14.out).mono ?_
      (case side1 => repeat (first | exact (Kd.C_below HR1_1.out HB.out) | (with_reducible refine Kd.C_alloc ?_ _) | (with_reducible refine Kd.C_drewN ?_ _) | (with_reducible refine Kd.C_drew ?_)))
      (case side2 => exact HC1_1.out)
      rintro e w77 ⟨v315, rfl, ho0, hb⟩
      refine ⟨_, rfl, ?_⟩
      have n0_ := Aside0.mk (Kd.R_below u14_ hb)
      have n1_ := Aside0.mk (Kd.R_lower ho0 (below_size u4_))
      have n2_ := Aside0.mk (blk_below (g := gb307) (o := .cells #[.string a1_0, .slice A1_1 l1_1.length c1_1] 54 (0, 0)) u5_ hb)
      have n3_ := Aside0.mk (below_step u4_ hb)
      clear HO312
      clear BK307
      clear HB
      have HO312 := n0_
      have HO316 := n1_
      have BK307 := n2_
      have HB := n3_
      clear n0_ n1_ n2_ n3_
      (try clear hb)
      (try clear hb2)
      (try clear hk)
      (try clear hi)
      (try clear ho0)
      obtain ⟨Ao78, co78, eo78⟩ := Kd.R_slice HO312.out
      (first | subst eo78 | (injection eo78 with f1_ f2_ f3_; have f4_ := f1_.symm; have f5_ := f3_.symm; clear f1_ f2_ f3_; subst f4_; subst f5_))
      obtain ⟨Ao79, co79, eo79⟩ := Kd.R_slice HO316.out
      (first | subst eo79 | (injection eo79 with f1_ f2_ f3_; have f4_ := f1_.symm; have f5_ := f3_.symm; clear f1_ f2_ f3_; subst f4_; subst f5_))
      refine hK.out _ _ ⟨(blk_cell BK307.out 0).trans rfl, (blk_cell BK307.out 1).trans rfl⟩ (fun hHeld => ?_)
      clear hK K
      refine norm_ (a' := ?_) ?_ ?_
      rotate_left
      ·show Act.put _ (some 23) _ = _
       simp only [Act.put, List.setIfInBounds_toArray, List.set_cons_zero, List.set_cons_succ, i64_w, i32_w]
       rfl
      refine one_ (i := 4) (N := some 24) #[true, true, true, true, true, false] rfl rfl u7_ u64_ (fun K hK => ?_)
      refine goes_ Tryd.func27 u7_ rfl #[.slice Ao78 t310.length co78, .agg #[.string t313, .slice Ao79 t314.length co79]] u39_ rfl rfl u1_ ?_
      with_reducible refine (spec_DocOk.calls k _ _ t310 t313 _ _ t314 t317 _ ?side1 ?side2 ?side3 ?side4 A15.out).mono ?_
      (case side1 => repeat (first | exact (Kd.R_reads' HO312.out).2.2 | (with_reducible refine Kd.C_alloc ?_ _) | (with_reducible refine Kd.C_drewN ?_ _) | (with_reducible refine Kd.C_drew ?_)))
      (case side2 => exact (Kd.R_reads' HO312.out).2.1)
      (case side3 => repeat (first | exact (Kd.R_reads' HO316.out).2.2 | (with_reducible refine Kd.C_alloc ?_ _) | (with_reducible refine Kd.C_drewN ?_ _) | (with_reducible refine Kd.C_drew ?_)))
      (case side4 => exact (Kd.R_reads' HO316.out).2.1)
      rintro e w80 ⟨rfl, hb⟩
      refine ⟨_, rfl, ?_⟩
      have n0_ := Aside0.mk (Kd.R_below u14_ hb)
      have n1_ := Aside0.mk (Kd.R_below u18_ hb)
      have n2_ := Aside0.mk (blk_below (g := gb307) (o := .cells #[.string a1_0, .slice A1_1 l1_1.length c1_1] 54 (0, 0)) u5_ hb)
      have n3_ := Aside0.mk (below_step u4_ hb)
      clear HO312
      clear HO316
      clear BK307
      clear HB
      have HO312 := n0_
      have HO316 := n1_
      have BK307 := n2_
      have HB := n3_
      clear n0_ n1_ n2_ n3_
      (try clear hb)
      (try clear hb2)
      (try clear hk)
      (try clear hi)
      refine hK.out _ _ ⟨(blk_cell BK307.out 0).trans rfl, (blk_cell BK307.out 1).trans rfl⟩ (fun hHeld => ?_)
      clear hK K
      refine norm_ (a' := ?_) ?_ ?_
      rotate_left
      ·show Act.put _ (some 24) _ = _
       simp only [Act.put, List.setIfInBounds_toArray, List.set_cons_zero, List.set_cons_succ, i64_w, i32_w]
       rfl
      refine pure_ (i := 5) (N := some 6) (v := ?_) (a' := ?_) #[true, true, true, true, true, true] rfl rfl u7_ (fun _ _ _ h => h) (Or.inl ⟨u39_, ?_⟩) ?_ ?_
      rotate_left
      ·intro w'
       go_simp
       with_reducible rfl
      rotate_left
      ·simp only [Act.put, List.setIfInBounds_toArray, List.set_cons_zero, List.set_cons_succ, i64_w, i32_w]
       rfl
      refine done_ u7_ ?_
      try go_wp2_with (first | ((with_reducible refine gate_callee (f := 37) rfl ?_); refine goesL_ (some 26) rfl rfl Tryd.func37 u7_ rfl #[.slice A0 l0.length c0] rfl u1_ ?_; (with_reducible refine (laws_toFieldS.calls k _ _ l0 t318 _ ?side1 ?side2 A16.out).mono ?_); (case side1 => repeat (first | exact (Kd.C_below HR0.out HB.out) | (with_reducible refine Kd.C_alloc ?_ _) | (with_reducible refine Kd.C_drewN ?_ _) | (with_reducible refine Kd.C_drew ?_))); (case side2 => exact HC0.out); rintro e w81 ⟨v319, rfl, ho0, hb⟩; refine ⟨_, rfl, ?_⟩; have n0_ := Aside0.mk (Kd.R_elder' u14_ (Kd.R_base ho0) hb); have n1_ := Aside0.mk (Kd.R_below u18_ hb); have n2_ := Aside0.mk (Kd.R_lower (Kd.R_new' ho0 (Kd.R_lt u14_)) (below_size u4_)); have n3_ := Aside0.mk (blk_below (g := gb307) (o := .cells #[.string a1_0, .slice A1_1 l1_1.length c1_1] 54 (0, 0)) u5_ hb); have n4_ := Aside0.mk (below_step u4_ hb); clear HO312; clear HO316; clear BK307; clear HB; have HO312 := n0_; have HO316 := n1_; have HO320 := n2_; have BK307 := n3_; have HB := n4_; clear n0_ n1_ n2_ n3_ n4_; (try clear hb); (try clear hb2); (try clear hk); (try clear hi); (try clear ho0); have hcz82_0 : w81.cell? ⟨gb307, 0, none⟩ = some (.string a1_0) := (blk_cell BK307.out 0).trans rfl; have hcz82_1 : w81.cell? ⟨gb307, 1, none⟩ = some (.slice A1_1 l1_1.length c1_1) := (blk_cell BK307.out 1).trans rfl; have hfz82_0 := blk_frozen BK307.out 0; have hfz82_1 := blk_frozen BK307.out 1) | ((with_reducible refine gate_callee (f := 38) rfl ?_); refine goesL_ (some 28) rfl rfl Tryd.func38 u7_ rfl #[.agg #[.string a1_0, .slice A1_1 l1_1.length c1_1]] rfl u1_ ?_; (with_reducible refine (laws_toDoc.calls k a1_0 _ _ l1_1 t321 t322 _ ?side1 ?side2 A17.out).mono ?_); (case side1 => repeat (first | exact (Kd.C_below HR1_1.out HB.out) | (with_reducible refine Kd.C_alloc ?_ _) | (with_reducible refine Kd.C_drewN ?_ _) | (with_reducible refine Kd.C_drew ?_))); (case side2 => exact HC1_1.out); rintro e w83 ⟨v323, rfl, ho0, hb⟩; refine ⟨_, rfl, ?_⟩; have n0_ := Aside0.mk (Kd.R_below u14_ hb); have n1_ := Aside0.mk (Kd.R_elder' u18_ (Kd.R_base ho0) hb); have n2_ := Aside0.mk (Kd.R_below u24_ hb); have n3_ := Aside0.mk (Kd.R_lower (Kd.R_new' ho0 (Kd.R_lt u18_)) (below_size u4_)); have n4_ := Aside0.mk (blk_below (g := gb307) (o := .cells #[.string a1_0, .slice A1_1 l1_1.length c1_1] 54 (0, 0)) u5_ hb); have n5_ := Aside0.mk (below_step u4_ hb); clear HO312; clear HO316; clear HO320; clear BK307; clear HB; have HO312 := n0_; have HO316 := n1_; have HO320 := n2_; have HO324 := n3_; have BK307 := n4_; have HB := n5_; clear n0_ n1_ n2_ n3_ n4_ n5_; (try clear hb); (try clear hb2); (try clear hk); (try clear hi); (try clear ho0)) | ((with_reducible refine gate_dst (N := 8) rfl ?_); refine box_event ?hg (N := 8) ?hd (cs := #[.string (⟨#[]⟩ : ByteArray), .slice none 0 0]) (t := 41) ?hr ?_; (case hd => rfl); (case hg => rfl); (case hr => first | (go_simp; done) | (go_simp; rfl)); intro gb325 hg w84 hbox hb; have n0_ := Aside0.mk (Kd.R_below u14_ hb); have n1_ := Aside0.mk (Kd.R_below u18_ hb); have n2_ := Aside0.mk (Kd.R_below u24_ hb); have n3_ := Aside0.mk (Kd.R_below u28_ hb); have n4_ := Aside0.mk (blk_below (g := gb307) (o := .cells #[.string a1_0, .slice A1_1 l1_1.length c1_1] 54 (0, 0)) u5_ hb); have n5_ := Aside0.mk (below_step u4_ hb); have n6_ := Aside0.mk (hbox); have n7_ := Aside0.mk ((by rw [hg]; exact (below_size u4_) : w.heap.size ≤ gb325)); have n8_ := Aside0.mk ((by rw [hg]; exact (below_size u4_) : w.heap.size ≤ gb325)); have n9_ := Aside0.mk ((by rw [hg]; exact Nat.ne_of_lt (blk_lt (g := gb307) (o := .cells #[.string a1_0, .slice A1_1 l1_1.length c1_1] 54 (0, 0)) u5_) : gb307 ≠ gb325)); have n10_ := Aside0.mk ((by rw [hg]; exact Nat.ne_of_gt (blk_lt (g := gb307) (o := .cells #[.string a1_0, .slice A1_1 l1_1.length c1_1] 54 (0, 0)) u5_) : gb325 ≠ gb307)); clear HO312; clear HO316; clear HO320; clear HO324; clear BK307; clear HB; have HO312 := n0_; have HO316 := n1_; have HO320 := n2_; have HO324 := n3_; have BK307 := n4_; have HB := n5_; have BK325 := n6_; have GW325 := n7_; have GE325 := n8_; have NB307_325 := n9_; have NB325_307 := n10_; clear n0_ n1_ n2_ n3_ n4_ n5_ n6_ n7_ n8_ n9_ n10_; clear hb hbox hg; have hnb85 := NB325_307.out; have hnc85 := NB307_325.out; have hcz86_0 : w84.cell? ⟨gb325, 0, none⟩ = some (.string (⟨#[]⟩ : ByteArray)) := (blk_cell BK325.out 0).trans rfl; have hcz86_1 : w84.cell? ⟨gb325, 1, none⟩ = some (.slice none 0 0) := (blk_cell BK325.out 1).trans rfl; have hfz86_0 := blk_frozen BK325.out 0; have hfz86_1 := blk_frozen BK325.out 1; obtain ⟨Ao87, co87, eo87⟩ := Kd.R_slice HO324.out; subst eo87; obtain ⟨Ao88, co88, eo88⟩ := Kd.R_slice HO320.out; subst eo88) | ((with_reducible refine gate_callee (f := 26) rfl ?_); refine goesL_ (some 31) rfl rfl Tryd.func26 u7_ rfl #[.slice Ao88 t318.length co88, .agg #[.string t321, .slice Ao87 t322.length co87]] rfl u1_ ?_; (with_reducible refine (impl_DocOk.calls k _ _ t318 t321 _ _ t322 t326 _ ?side1 ?side2 ?side3 ?side4 ?side5 A18.out).mono ?_); (case side1 => exact StopsIn.below HG_.out u9_); (case side2 => refine (Kd.R_reads' (e := 75) (base := w.heap.size) (ok := fun k_ => (True ∧ some k_ ≠ (.slice Ao78 t310.length co78 : Value).ownBlock)) (n := t318.length) (c := co88) ?_).2.2; exact u95_); (case side3 => exact (Kd.R_reads' HO320.out).2.1); (case side4 => refine (Kd.R_reads' (e := 46) (base := w.heap.size) (ok := fun k_ => (True ∧ some k_ ≠ (.slice Ao79 t314.length co79 : Value).ownBlock)) (n := t322.length) (c := co87) ?_).2.2; exact u96_); (case side5 => exact (Kd.R_reads' HO324.out).2.1); rintro e w89 ⟨rfl, hb⟩; refine ⟨_, rfl, ?_⟩; have n0_ := Aside0.mk (Kd.R_below (by (with_reducible repeat (first | apply Kd.R_alloc | apply Kd.R_drewN | apply Kd.R_drew)); exact (Kd.R_mono (Kd.R_far (p := ⟨gb325, 1, none⟩) (Kd.R_far (p := ⟨gb325, 0, none⟩) (Kd.R_types HO312.out BK325.out u64_) (fun _ hk => hk.2) (.string t321)) (fun _ hk => hk.2) (.slice Ao87 t322.length co87)) (fun _ h_ => h_.1))) hb); have n1_ := Aside0.mk (Kd.R_below (by (with_reducible repeat (first | apply Kd.R_alloc | apply Kd.R_drewN | apply Kd.R_drew)); exact (Kd.R_mono (Kd.R_far (p := ⟨gb325, 1, none⟩) (Kd.R_far (p := ⟨gb325, 0, none⟩) (Kd.R_types HO316.out BK325.out u64_) (fun _ hk => hk.2) (.string t321)) (fun _ hk => hk.2) (.slice Ao87 t322.length co87)) (fun _ h_ => h_.1))) hb); have n2_ := Aside0.mk (Kd.R_below u95_ hb); have n3_ := Aside0.mk (Kd.R_below u96_ hb); have n4_ := Aside0.mk (blk_below (g := gb307) (o := .cells #[.string a1_0, .slice A1_1 l1_1.length c1_1] 54 (0, 0)) u36_ hb); have n5_ := Aside0.mk (blk_below (g := gb325) (o := .cells #[.string t321, .slice Ao87 t322.length co87] 41 (0, 0)) u29_ hb); have n6_ := Aside0.mk (below_step u9_ hb); clear HO312; clear HO316; clear HO320; clear HO324; clear BK307; clear BK325; clear HB; have HO312 := n0_; have HO316 := n1_; have HO320 := n2_; have HO324 := n3_; have BK307 := n4_; have BK325 := n5_; have HB := n6_; clear n0_ n1_ n2_ n3_ n4_ n5_ n6_; (try clear hb); (try clear hb2); (try clear hk); (try clear hi)) | ((with_reducible refine gate_callee (f := 37) rfl ?_); refine goesL_ (some 37) rfl rfl Tryd.func37 u7_ rfl #[.slice A0 l0.length c0] rfl u1_ ?_; (with_reducible refine (laws_toFieldS.calls k _ _ l0 t327 _ ?side1 ?side2 A39.out).mono ?_); (case side1 => repeat (first | exact (Kd.C_below HR0.out HB.out) | (with_reducible refine Kd.C_alloc ?_ _) | (with_reducible refine Kd.C_drewN ?_ _) | (with_reducible refine Kd.C_drew ?_))); (case side2 => exact HC0.out); rintro e w90 ⟨v328, rfl, ho0, hb⟩; refine ⟨_, rfl, ?_⟩; have n0_ := Aside0.mk (Kd.R_elder' u14_ (Kd.R_base ho0) hb); have n1_ := Aside0.mk (Kd.R_below u18_ hb); have n2_ := Aside0.mk (Kd.R_elder' u24_ (Kd.R_base ho0) hb); have n3_ := Aside0.mk (Kd.R_below u28_ hb); have n4_ := Aside0.mk (Kd.R_lower (Kd.R_new' (Kd.R_new' ho0 (Kd.R_lt u14_)) (Kd.R_lt u24_)) (below_size u9_)); have n5_ := Aside0.mk (blk_below (g := gb307) (o := .cells #[.string a1_0, .slice A1_1 l1_1.length c1_1] 54 (0, 0)) u5_ hb); have n6_ := Aside0.mk (blk_below (g := gb325) (o := .cells #[.string t321, .slice Ao87 t322.length co87] 41 (0, 0)) u41_ hb); have n7_ := Aside0.mk (below_step u9_ hb); clear HO312; clear HO316; clear HO320; clear HO324; clear BK307; clear BK325; clear HB; have HO312 := n0_; have HO316 := n1_; have HO320 := n2_; have HO324 := n3_; have HO329 := n4_; have BK307 := n5_; have BK325 := n6_; have HB := n7_; clear n0_ n1_ n2_ n3_ n4_ n5_ n6_ n7_; (try clear hb); (try clear hb2); (try clear hk); (try clear hi); (try clear ho0); obtain ⟨Ao91, co91, eo91⟩ := Kd.R_slice HO329.out; subst eo91) | ((with_reducible refine gate_callee (f := 22) rfl ?_); refine goesL_ (some 38) rfl rfl Tryd.func22 u7_ rfl #[.slice Ao88 t318.length co88, .slice Ao91 t327.length co91] rfl u1_ ?_; (with_reducible refine (laws_eqFieldS.calls k _ _ t318 _ _ t327 true _ ?side1 ?side2 ?side3 ?side4 A40.out).mono ?_); (case side1 => repeat (first | exact (Kd.R_reads' HO320.out).2.2 | (with_reducible refine Kd.C_alloc ?_ _) | (with_reducible refine Kd.C_drewN ?_ _) | (with_reducible refine Kd.C_drew ?_))); (case side2 => exact (Kd.R_reads' HO320.out).2.1); (case side3 => repeat (first | exact (Kd.R_reads' HO329.out).2.2 | (with_reducible refine Kd.C_alloc ?_ _) | (with_reducible refine Kd.C_drewN ?_ _) | (with_reducible refine Kd.C_drew ?_))); (case side4 => exact (Kd.R_reads' HO329.out).2.1); rintro e w92 ⟨rfl, hb⟩; refine ⟨_, rfl, ?_⟩; have n0_ := Aside0.mk (Kd.R_below u14_ hb); have n1_ := Aside0.mk (Kd.R_below u18_ hb); have n2_ := Aside0.mk (Kd.R_below u24_ hb); have n3_ := Aside0.mk (Kd.R_below u28_ hb); have n4_ := Aside0.mk (Kd.R_below u59_ hb); have n5_ := Aside0.mk (blk_below (g := gb307) (o := .cells #[.string a1_0, .slice A1_1 l1_1.length c1_1] 54 (0, 0)) u5_ hb); have n6_ := Aside0.mk (blk_below (g := gb325) (o := .cells #[.string t321, .slice Ao87 t322.length co87] 41 (0, 0)) u41_ hb); have n7_ := Aside0.mk (below_step u9_ hb); clear HO312; clear HO316; clear HO320; clear HO324; clear HO329; clear BK307; clear BK325; clear HB; have HO312 := n0_; have HO316 := n1_; have HO320 := n2_; have HO324 := n3_; have HO329 := n4_; have BK307 := n5_; have BK325 := n6_; have HB := n7_; clear n0_ n1_ n2_ n3_ n4_ n5_ n6_ n7_; (try clear hb); (try clear hb2); (try clear hk); (try clear hi)))
      have n0_ := Aside0.mk (Kd.R_drew HO312.out)
      have n1_ := Aside0.mk (Kd.R_drew HO316.out)
      have n2_ := Aside0.mk (Kd.R_drew HO320.out)
      have n3_ := Aside0.mk (Kd.R_drew HO324.out)
      have n4_ := Aside0.mk (Kd.R_drew HO329.out)
      have n5_ := Aside0.mk (blk_drew BK307.out)
      have n6_ := Aside0.mk (blk_drew BK325.out)
      have n7_ := Aside0.mk (below_drew1 HB.out)
      clear HO312
      clear HO316
      clear HO320
      clear HO324
      clear HO329
      clear BK307
      clear BK325
      clear HB
      have HO312 := n0_
      have HO316 := n1_
      have HO320 := n2_
      have HO324 := n3_
      have HO329 := n4_
      have BK307 := n5_
      have BK325 := n6_
      have HB := n7_
      clear n0_ n1_ n2_ n3_ n4_ n5_ n6_ n7_
      refine start_ (n := 5) (S := fun w' => w'.cell? ⟨gb325, 0, none⟩ = some (.string t321) ∧ w'.cell? ⟨gb325, 1, none⟩ = some (.slice Ao87 t322.length co87) ∧ w'.cell? ⟨gb307, 0, none⟩ = some (.string a1_0) ∧ w'.cell? ⟨gb307, 1, none⟩ = some (.slice A1_1 l1_1.length c1_1)) (ds := []) #[false, false, false, false, false] u7_ rfl rfl ⟨(blk_cell BK325.out 0).trans rfl, (blk_cell BK325.out 1).trans rfl, (blk_cell BK307.out 0).trans rfl, (blk_cell BK307.out 1).trans rfl⟩ (fun hHeld => ?_)
      generalize w92.drew = w93 at HO312 HO316 HO320 HO324 HO329 BK307 BK325 HB hHeld ⊢
      refine take_ (i := 0) (N := some 40) (v := ?_) (a' := ?_) #[true, false, false, false, false] rfl rfl u7_ (fun _ _ _ h => h) (Or.inl ⟨u39_, ?_⟩) hHeld ?_ ?_
      rotate_left
      ·rintro w' ⟨s0, s1, s2, s3⟩
       go_simp
       with_reducible rfl
      rotate_left
      ·simp only [Act.put, List.setIfInBounds_toArray, List.set_cons_zero, List.set_cons_succ, i64_w, i32_w]
       rfl
      refine take_ (i := 1) (N := some 41) (v := ?_) (a' := ?_) #[true, true, false, false, false] rfl rfl u7_ (fun _ _ _ h => h) (Or.inl ⟨u39_, ?_⟩) hHeld ?_ ?_
      rotate_left
      ·rintro w' ⟨s0, s1, s2, s3⟩
       go_simp
       with_reducible rfl
      rotate_left
      ·simp only [Act.put, List.setIfInBounds_toArray, List.set_cons_zero, List.set_cons_succ, i64_w, i32_w]
       rfl
      refine one_ (i := 2) (N := some 42) #[true, true, true, false, false] rfl rfl u7_ u64_ (fun K hK => ?_)
      refine goes_ Tryd.func38 u7_ rfl #[.agg #[.string a1_0, .slice A1_1 l1_1.length c1_1]] u39_ rfl rfl u1_ ?_
      with_reducible refine (laws_toDoc.calls k a1_0 _ _ l1_1 t331 t332 _ ?side1 ?side2 A42.out).mono ?_
      (case side1 => repeat (first | exact (Kd.C_below HR1_1.out HB.out) | (with_reducible refine Kd.C_alloc ?_ _) | (with_reducible refine Kd.C_drewN ?_ _) | (with_reducible refine Kd.C_drew ?_)))
      (case side2 => exact HC1_1.out)
      rintro e w94 ⟨v333, rfl, ho0, hb⟩
      refine ⟨_, rfl, ?_⟩
      have n0_ := Aside0.mk (Kd.R_below u14_ hb)
      have n1_ := Aside0.mk (Kd.R_elder' u18_ (Kd.R_base ho0) hb)
      have n2_ := Aside0.mk (Kd.R_below u24_ hb)
      have n3_ := Aside0.mk (Kd.R_elder' u28_ (Kd.R_base ho0) hb)
      have n4_ := Aside0.mk (Kd.R_below u59_ hb)
      have n5_ := Aside0.mk (Kd.R_lower (Kd.R_new' (Kd.R_new' ho0 (Kd.R_lt u18_)) (Kd.R_lt u28_)) (below_size u9_))
      have n6_ := Aside0.mk (blk_below (g := gb307) (o := .cells #[.string a1_0, .slice A1_1 l1_1.length c1_1] 54 (0, 0)) u5_ hb)
      have n7_ := Aside0.mk (blk_below (g := gb325) (o := .cells #[.string t321, .slice Ao87 t322.length co87] 41 (0, 0)) u41_ hb)
      have n8_ := Aside0.mk (below_step u9_ hb)
      clear HO312
      clear HO316
      clear HO320
      clear HO324
      clear HO329
      clear BK307
      clear BK325
      clear HB
      have HO312 := n0_
      have HO316 := n1_
      have HO320 := n2_
      have HO324 := n3_
      have HO329 := n4_
      have HO334 := n5_
      have BK307 := n6_
      have BK325 := n7_
      have HB := n8_
      clear n0_ n1_ n2_ n3_ n4_ n5_ n6_ n7_ n8_
      (try clear hb)
      (try clear hb2)
      (try clear hk)
      (try clear hi)
      (try clear ho0)
      obtain ⟨Ao95, co95, eo95⟩ := Kd.R_slice HO334.out
      (first | subst eo95 | (injection eo95 with f1_ f2_ f3_; have f4_ := f1_.symm; have f5_ := f3_.symm; clear f1_ f2_ f3_; subst f4_; subst f5_))
      refine hK.out _ _ ⟨(blk_cell BK325.out 0).trans rfl, (blk_cell BK325.out 1).trans rfl, (blk_cell BK307.out 0).trans rfl, (blk_cell BK307.out 1).trans rfl⟩ (fun hHeld => ?_)
      clear hK K
      refine norm_ (a' := ?_) ?_ ?_
      rotate_left
      ·show Act.put _ (some 42) _ = _
       simp only [Act.put, List.setIfInBounds_toArray, List.set_cons_zero, List.set_cons_succ, i64_w, i32_w]
       rfl
      refine one_ (i := 3) (N := some 43) #[true, true, true, true, false] rfl rfl u7_ u64_ (fun K hK => ?_)
      refine goes_ Tryd.func39 u7_ rfl #[.agg #[.string t321, .slice Ao87 t322.length co87], .agg #[.string t331, .slice Ao95 t332.length co95]] u39_ rfl rfl u1_ ?_
      with_reducible refine (laws_eqDoc.calls k t321 _ _ t322 t331 _ _ t332 false _ ?side1 ?side2 ?side3 ?side4 A43.out).mono ?_
      (case side1 => repeat (first | exact (Kd.R_reads' HO324.out).2.2 | (with_reducible refine Kd.C_alloc ?_ _) | (with_reducible refine Kd.C_drewN ?_ _) | (with_reducible refine Kd.C_drew ?_)))
      (case side2 => exact (Kd.R_reads' HO324.out).2.1)
      (case side3 => repeat (first | exact (Kd.R_reads' HO334.out).2.2 | (with_reducible refine Kd.C_alloc ?_ _) | (with_reducible refine Kd.C_drewN ?_ _) | (with_reducible refine Kd.C_drew ?_)))
      (case side4 => exact (Kd.R_reads' HO334.out).2.1)
      rintro e w96 ⟨rfl, hb⟩
      refine ⟨_, rfl, ?_⟩
      have n0_ := Aside0.mk (Kd.R_below u14_ hb)
      have n1_ := Aside0.mk (Kd.R_below u18_ hb)
      have n2_ := Aside0.mk (Kd.R_below u24_ hb)
      have n3_ := Aside0.mk (Kd.R_below u28_ hb)
      have n4_ := Aside0.mk (Kd.R_below u59_ hb)
      have n5_ := Aside0.mk (Kd.R_below (by (with_reducible repeat (first | apply Kd.R_alloc | apply Kd.R_drewN | apply Kd.R_drew)); exact HO334.out) hb)
      have n6_ := Aside0.mk (blk_below (g := gb307) (o := .cells #[.string a1_0, .slice A1_1 l1_1.length c1_1] 54 (0, 0)) u5_ hb)
      have n7_ := Aside0.mk (blk_below (g := gb325) (o := .cells #[.string t321, .slice Ao87 t322.length co87] 41 (0, 0)) u41_ hb)
      have n8_ := Aside0.mk (below_step u9_ hb)
      clear HO312
      clear HO316
      clear HO320
      clear HO324
      clear HO329
      clear HO334
      clear BK307
      clear BK325
      clear HB
      have HO312 := n0_
      have HO316 := n1_
      have HO320 := n2_
      have HO324 := n3_
      have HO329 := n4_
      have HO334 := n5_
      have BK307 := n6_
      have BK325 := n7_
      have HB := n8_
      clear n0_ n1_ n2_ n3_ n4_ n5_ n6_ n7_ n8_
      (try clear hb)
      (try clear hb2)
      (try clear hk)
      (try clear hi)
      refine hK.out _ _ ⟨(blk_cell BK325.out 0).trans rfl, (blk_cell BK325.out 1).trans rfl, (blk_cell BK307.out 0).trans rfl, (blk_cell BK307.out 1).trans rfl⟩ (fun hHeld => ?_)
      clear hK K
      refine norm_ (a' := ?_) ?_ ?_
      rotate_left
      ·show Act.put _ (some 43) _ = _
       simp only [Act.put, List.setIfInBounds_toArray, List.set_cons_zero, List.set_cons_succ, i64_w, i32_w]
       rfl
      refine pure_ (i := 4) (N := some 44) (v := ?_) (a' := ?_) #[true, true, true, true, true] rfl rfl u7_ (fun _ _ _ h => h) (Or.inl ⟨u39_, ?_⟩) ?_ ?_
      rotate_left
      ·intro w'
       go_simp
       with_reducible rfl
      rotate_left
      ·simp only [Act.put, List.setIfInBounds_toArray, List.set_cons_zero, List.set_cons_succ, i64_w, i32_w]
       rfl
      refine done_ u7_ ?_
      try go_wp2
      go_ret
      exact ⟨u3_, u9_⟩
    ·replace c41 := Bool.eq_false_iff.mpr c41
     subst c41
     have H1 : (some false) = some r := by rw [if_neg (show ¬ (false = true) by decide)] at H; exact H
     clear H
     have H := H1
     clear H1
     obtain rfl := Option.some.inj H
     go_enter Tryd.func8, Tryd.ntmps8
     try go_wp2_with (first | ((with_reducible refine gate_dst (N := 3) rfl ?_); refine box_event ?hg (N := 3) ?hd (cs := #[.string a1_0, .slice A1_1 l1_1.length c1_1]) (t := 54) ?hr ?_; (case hd => rfl); (case hg => rfl); (case hr => first | (go_simp; done) | (go_simp; rfl)); intro gb307 hg w97 hbox hb; have n0_ := Aside0.mk (below_step u0_ hb); have n1_ := Aside0.mk (hbox); have n2_ := Aside0.mk ((by rw [hg]; exact (below_size u0_) : w.heap.size ≤ gb307)); have n3_ := n2_; clear HB; have HB := n0_; have BK307 := n1_; have GW307 := n2_; have GE307 := n3_; clear n0_ n1_ n2_ n3_; clear hb hbox hg) | ((with_reducible refine gate_callee (f := 35) rfl ?_); refine goesL_ (some 12) rfl rfl Tryd.func35 u7_ rfl #[.slice A0 l0.length c0, .int .i64 1048576] rfl u1_ ?_; (with_reducible refine (laws_szFieldS.calls k _ _ l0 1048576 t308 _ ?side1 ?side2 A3.out).mono ?_); (case side1 => repeat (first | exact (Kd.C_below HR0.out HB.out) | (with_reducible refine Kd.C_alloc ?_ _) | (with_reducible refine Kd.C_drewN ?_ _) | (with_reducible refine Kd.C_drew ?_))); (case side2 => exact HC0.out); rintro e w98 ⟨rfl, hb⟩; refine ⟨_, rfl, ?_⟩; have n0_ := Aside0.mk (blk_below (g := gb307) (o := .cells #[.string a1_0, .slice A1_1 l1_1.length c1_1] 54 (0, 0)) u5_ hb); have n1_ := Aside0.mk (below_step u4_ hb); clear BK307; clear HB; have BK307 := n0_; have HB := n1_; clear n0_ n1_; (try clear hb); (try clear hb2); (try clear hk); (try clear hi); have hcz99_0 : w98.cell? ⟨gb307, 0, none⟩ = some (.string a1_0) := (blk_cell BK307.out 0).trans rfl; have hcz99_1 : w98.cell? ⟨gb307, 1, none⟩ = some (.slice A1_1 l1_1.length c1_1) := (blk_cell BK307.out 1).trans rfl; have hfz99_0 := blk_frozen BK307.out 0; have hfz99_1 := blk_frozen BK307.out 1) | ((with_reducible refine gate_callee (f := 36) rfl ?_); refine goesL_ (some 17) rfl rfl Tryd.func36 u7_ rfl #[.agg #[.string a1_0, .slice A1_1 l1_1.length c1_1], .int .i64 t308] rfl u1_ ?_; (with_reducible refine (laws_szDoc.calls k a1_0 _ _ l1_1 t308 t309 _ ?side1 ?side2 A7.out).mono ?_); (case side1 => repeat (first | exact (Kd.C_below HR1_1.out HB.out) | (with_reducible refine Kd.C_alloc ?_ _) | (with_reducible refine Kd.C_drewN ?_ _) | (with_reducible refine Kd.C_drew ?_))); (case side2 => exact HC1_1.out); rintro e w100 ⟨rfl, hb⟩; refine ⟨_, rfl, ?_⟩; have n0_ := Aside0.mk (blk_below (g := gb307) (o := .cells #[.string a1_0, .slice A1_1 l1_1.length c1_1] 54 (0, 0)) u5_ hb); have n1_ := Aside0.mk (below_step u4_ hb); clear BK307; clear HB; have BK307 := n0_; have HB := n1_; clear n0_ n1_; (try clear hb); (try clear hb2); (try clear hk); (try clear hi)))
     have n0_ := Aside0.mk (blk_drew BK307.out)
     have n1_ := Aside0.mk (below_drew1 HB.out)
     clear BK307
     clear HB
     have BK307 := n0_
     have HB := n1_
     clear n0_ n1_
     refine start_ (n := 6) (S := fun w' => w'.cell? ⟨gb307, 0, none⟩ = some (.string a1_0) ∧ w'.cell? ⟨gb307, 1, none⟩ = some (.slice A1_1 l1_1.length c1_1)) (ds := []) #[false, false, false, false, false, false] u7_ rfl rfl ⟨(blk_cell BK307.out 0).trans rfl, (blk_cell BK307.out 1).trans rfl⟩ (fun hHeld => ?_)
     generalize w100.drew = w101 at BK307 HB hHeld ⊢
     refine pure_ (i := 0) (N := some 20) (v := ?_) (a' := ?_) #[true, false, false, false, false, false] rfl rfl u7_ (fun _ _ _ h => h) (Or.inl ⟨u39_, ?_⟩) ?_ ?_
     rotate_left
     ·intro w'
      go_simp
      with_reducible rfl
     rotate_left
     ·simp only [Act.put, List.setIfInBounds_toArray, List.set_cons_zero, List.set_cons_succ, i64_w, i32_w]
      rfl
     refine take_ (i := 2) (N := some 22) (v := ?_) (a' := ?_) #[true, false, true, false, false, false] rfl rfl u7_ (fun _ _ _ h => h) (Or.inl ⟨u39_, ?_⟩) hHeld ?_ ?_
     rotate_left
     ·rintro w' ⟨s0, s1⟩
      go_simp
      with_reducible rfl
     rotate_left
     ·simp only [Act.put, List.setIfInBounds_toArray, List.set_cons_zero, List.set_cons_succ, i64_w, i32_w]
      rfl
     refine one_ (i := 1) (N := some 21) #[true, true, true, false, false, false] rfl rfl u7_ u64_ (fun K hK => ?_)
     refine goes_ Tryd.func37 u7_ rfl #[.slice A0 l0.length c0] u39_ rfl rfl u1_ ?_
     with_reducible refine (laws_toFieldS.calls k _ _ l0 t310 _ ?side1 ?side2 A13.out).mono ?_
     (case side1 => repeat (first | exact (Kd.C_below HR0.out HB.out) | (with_reducible refine Kd.C_alloc ?_ _) | (with_reducible refine Kd.C_drewN ?_ _) | (with_reducible refine Kd.C_drew ?_)))
     (case side2 => exact HC0.out)
     rintro e w102 ⟨v311, rfl, ho0, hb⟩
     refine ⟨_, rfl, ?_⟩
     have n0_ := Aside0.mk (Kd.R_lower ho0 (below_size u4_))
     have n1_ := Aside0.mk (blk_below (g := gb307) (o := .cells #[.string a1_0, .slice A1_1 l1_1.length c1_1] 54 (0, 0)) u5_ hb)
     have n2_ := Aside0.mk (below_step u4_ hb)
     clear BK307
     clear HB
     have HO312 := n0_
     have BK307 := n1_
     have HB := n2_
     clear n0_ n1_ n2_
     (try clear hb)
     (try clear hb2)
     (try clear hk)
     (try clear hi)
     (try clear ho0)
     refine hK.out _ _ ⟨(blk_cell BK307.out 0).trans rfl, (blk_cell BK307.out 1).trans rfl⟩ (fun hHeld => ?_)
     clear hK K
     refine norm_ (a' := ?_) ?_ ?_
     rotate_left
     ·show Act.put _ (some 21) _ = _
      simp only [Act.put, List.setIfInBounds_toArray, List.set_cons_zero, List.set_cons_succ, i64_w, i32_w]
      rfl
     refine one_ (i := 3) (N := some 23) #[true, true, true, true, false, false] rfl rfl u7_ u64_ (fun K hK => ?_)
     refine goes_ Tryd.func38 u7_ rfl #[.agg #[.string a1_0, .slice A1_1 l1_1.length c1_1]] u39_ rfl rfl u1_ ?_
     with_reducible refine (laws_toDoc.calls k a1_0 _ _ l1_1 t313 t314 _ ?side1 ?side2 A14.out).mono ?_
     (case side1 => repeat (first | exact (Kd.C_below HR1_1.out HB.out) | (with_reducible refine Kd.C_alloc ?_ _) | (with_reducible refine Kd.C_drewN ?_ _) | (with_reducible refine Kd.C_drew ?_)))
     (case side2 => exact HC1_1.out)
     rintro e w103 ⟨v315, rfl, ho0, hb⟩
     refine ⟨_, rfl, ?_⟩
     have n0_ := Aside0.mk (Kd.R_below u14_ hb)
     have n1_ := Aside0.mk (Kd.R_lower ho0 (below_size u4_))
     have n2_ := Aside0.mk (blk_below (g := gb307) (o := .cells #[.string a1_0, .slice A1_1 l1_1.length c1_1] 54 (0, 0)) u5_ hb)
     have n3_ := Aside0.mk (below_step u4_ hb)
     clear HO312
     clear BK307
     clear HB
     have HO312 := n0_
     have HO316 := n1_
     have BK307 := n2_
     have HB := n3_
     clear n0_ n1_ n2_ n3_
     (try clear hb)
     (try clear hb2)
     (try clear hk)
     (try clear hi)
     (try clear ho0)
     obtain ⟨Ao104, co104, eo104⟩ := Kd.R_slice HO312.out
     (first | subst eo104 | (injection eo104 with f1_ f2_ f3_; have f4_ := f1_.symm; have f5_ := f3_.symm; clear f1_ f2_ f3_; subst f4_; subst f5_))
     obtain ⟨Ao105, co105, eo105⟩ := Kd.R_slice HO316.out
     (first | subst eo105 | (injection eo105 with f1_ f2_ f3_; have f4_ := f1_.symm; have f5_ := f3_.symm; clear f1_ f2_ f3_; subst f4_; subst f5_))
     refine hK.out _ _ ⟨(blk_cell BK307.out 0).trans rfl, (blk_cell BK307.out 1).trans rfl⟩ (fun hHeld => ?_)
     clear hK K
     refine norm_ (a' := ?_) ?_ ?_
     rotate_left
     ·show Act.put _ (some 23) _ = _
      simp only [Act.put, List.setIfInBounds_toArray, List.set_cons_zero, List.set_cons_succ, i64_w, i32_w]
      rfl
     refine one_ (i := 4) (N := some 24) #[true, true, true, true, true, false] rfl rfl u7_ u64_ (fun K hK => ?_)
     refine goes_ Tryd.func27 u7_ rfl #[.slice Ao104 t310.length co104, .agg #[.string t313, .slice Ao105 t314.length co105]] u39_ rfl rfl u1_ ?_
     with_reducible refine (spec_DocOk.calls k _ _ t310 t313 _ _ t314 t317 _ ?side1 ?side2 ?side3 ?side4 A15.out).mono ?_
     (case side1 => repeat (first | exact (Kd.R_reads' HO312.out).2.2 | (with_reducible refine Kd.C_alloc ?_ _) | (with_reducible refine Kd.C_drewN ?_ _) | (with_reducible refine Kd.C_drew ?_)))
     (case side2 => exact (Kd.R_reads' HO312.out).2.1)
     (case side3 => repeat (first | exact (Kd.R_reads' HO316.out).2.2 | (with_reducible refine Kd.C_alloc ?_ _) | (with_reducible refine Kd.C_drewN ?_ _) | (with_reducible refine Kd.C_drew ?_)))
     (case side4 => exact (Kd.R_reads' HO316.out).2.1)
     rintro e w106 ⟨rfl, hb⟩
     refine ⟨_, rfl, ?_⟩
     have n0_ := Aside0.mk (Kd.R_below u14_ hb)
     have n1_ := Aside0.mk (Kd.R_below u18_ hb)
     have n2_ := Aside0.mk (blk_below (g := gb307) (o := .cells #[.string a1_0, .slice A1_1 l1_1.length c1_1] 54 (0, 0)) u5_ hb)
     have n3_ := Aside0.mk (below_step u4_ hb)
     clear HO312
     clear HO316
     clear BK307
     clear HB
     have HO312 := n0_
     have HO316 := n1_
     have BK307 := n2_
     have HB := n3_
     clear n0_ n1_ n2_ n3_
     (try clear hb)
     (try clear hb2)
     (try clear hk)
     (try clear hi)
     refine hK.out _ _ ⟨(blk_cell BK307.out 0).trans rfl, (blk_cell BK307.out 1).trans rfl⟩ (fun hHeld => ?_)
     clear hK K
     refine norm_ (a' := ?_) ?_ ?_
     rotate_left
     ·show Act.put _ (some 24) _ = _
      simp only [Act.put, List.setIfInBounds_toArray, List.set_cons_zero, List.set_cons_succ, i64_w, i32_w]
      rfl
     refine pure_ (i := 5) (N := some 6) (v := ?_) (a' := ?_) #[true, true, true, true, true, true] rfl rfl u7_ (fun _ _ _ h => h) (Or.inl ⟨u39_, ?_⟩) ?_ ?_
     rotate_left
     ·intro w'
      go_simp
      with_reducible rfl
     rotate_left
     ·simp only [Act.put, List.setIfInBounds_toArray, List.set_cons_zero, List.set_cons_succ, i64_w, i32_w]
      rfl
     refine done_ u7_ ?_
     try go_wp2_with (first | ((with_reducible refine gate_callee (f := 37) rfl ?_); refine goesL_ (some 26) rfl rfl Tryd.func37 u7_ rfl #[.slice A0 l0.length c0] rfl u1_ ?_; (with_reducible refine (laws_toFieldS.calls k _ _ l0 t318 _ ?side1 ?side2 A16.out).mono ?_); (case side1 => repeat (first | exact (Kd.C_below HR0.out HB.out) | (with_reducible refine Kd.C_alloc ?_ _) | (with_reducible refine Kd.C_drewN ?_ _) | (with_reducible refine Kd.C_drew ?_))); (case side2 => exact HC0.out); rintro e w107 ⟨v319, rfl, ho0, hb⟩; refine ⟨_, rfl, ?_⟩; have n0_ := Aside0.mk (Kd.R_elder' u14_ (Kd.R_base ho0) hb); have n1_ := Aside0.mk (Kd.R_below u18_ hb); have n2_ := Aside0.mk (Kd.R_lower (Kd.R_new' ho0 (Kd.R_lt u14_)) (below_size u4_)); have n3_ := Aside0.mk (blk_below (g := gb307) (o := .cells #[.string a1_0, .slice A1_1 l1_1.length c1_1] 54 (0, 0)) u5_ hb); have n4_ := Aside0.mk (below_step u4_ hb); clear HO312; clear HO316; clear BK307; clear HB; have HO312 := n0_; have HO316 := n1_; have HO320 := n2_; have BK307 := n3_; have HB := n4_; clear n0_ n1_ n2_ n3_ n4_; (try clear hb); (try clear hb2); (try clear hk); (try clear hi); (try clear ho0); have hcz108_0 : w107.cell? ⟨gb307, 0, none⟩ = some (.string a1_0) := (blk_cell BK307.out 0).trans rfl; have hcz108_1 : w107.cell? ⟨gb307, 1, none⟩ = some (.slice A1_1 l1_1.length c1_1) := (blk_cell BK307.out 1).trans rfl; have hfz108_0 := blk_frozen BK307.out 0; have hfz108_1 := blk_frozen BK307.out 1) | ((with_reducible refine gate_callee (f := 38) rfl ?_); refine goesL_ (some 28) rfl rfl Tryd.func38 u7_ rfl #[.agg #[.string a1_0, .slice A1_1 l1_1.length c1_1]] rfl u1_ ?_; (with_reducible refine (laws_toDoc.calls k a1_0 _ _ l1_1 t321 t322 _ ?side1 ?side2 A17.out).mono ?_); (case side1 => repeat (first | exact (Kd.C_below HR1_1.out HB.out) | (with_reducible refine Kd.C_alloc ?_ _) | (with_reducible refine Kd.C_drewN ?_ _) | (with_reducible refine Kd.C_drew ?_))); (case side2 => exact HC1_1.out); rintro e w109 ⟨v323, rfl, ho0, hb⟩; refine ⟨_, rfl, ?_⟩; have n0_ := Aside0.mk (Kd.R_below u14_ hb); have n1_ := Aside0.mk (Kd.R_elder' u18_ (Kd.R_base ho0) hb); have n2_ := Aside0.mk (Kd.R_below u24_ hb); have n3_ := Aside0.mk (Kd.R_lower (Kd.R_new' ho0 (Kd.R_lt u18_)) (below_size u4_)); have n4_ := Aside0.mk (blk_below (g := gb307) (o := .cells #[.string a1_0, .slice A1_1 l1_1.length c1_1] 54 (0, 0)) u5_ hb); have n5_ := Aside0.mk (below_step u4_ hb); clear HO312; clear HO316; clear HO320; clear BK307; clear HB; have HO312 := n0_; have HO316 := n1_; have HO320 := n2_; have HO324 := n3_; have BK307 := n4_; have HB := n5_; clear n0_ n1_ n2_ n3_ n4_ n5_; (try clear hb); (try clear hb2); (try clear hk); (try clear hi); (try clear ho0)) | ((with_reducible refine gate_dst (N := 8) rfl ?_); refine box_event ?hg (N := 8) ?hd (cs := #[.string (⟨#[]⟩ : ByteArray), .slice none 0 0]) (t := 41) ?hr ?_; (case hd => rfl); (case hg => rfl); (case hr => first | (go_simp; done) | (go_simp; rfl)); intro gb325 hg w110 hbox hb; have n0_ := Aside0.mk (Kd.R_below u14_ hb); have n1_ := Aside0.mk (Kd.R_below u18_ hb); have n2_ := Aside0.mk (Kd.R_below u24_ hb); have n3_ := Aside0.mk (Kd.R_below u28_ hb); have n4_ := Aside0.mk (blk_below (g := gb307) (o := .cells #[.string a1_0, .slice A1_1 l1_1.length c1_1] 54 (0, 0)) u5_ hb); have n5_ := Aside0.mk (below_step u4_ hb); have n6_ := Aside0.mk (hbox); have n7_ := Aside0.mk ((by rw [hg]; exact (below_size u4_) : w.heap.size ≤ gb325)); have n8_ := Aside0.mk ((by rw [hg]; exact (below_size u4_) : w.heap.size ≤ gb325)); have n9_ := Aside0.mk ((by rw [hg]; exact Nat.ne_of_lt (blk_lt (g := gb307) (o := .cells #[.string a1_0, .slice A1_1 l1_1.length c1_1] 54 (0, 0)) u5_) : gb307 ≠ gb325)); have n10_ := Aside0.mk ((by rw [hg]; exact Nat.ne_of_gt (blk_lt (g := gb307) (o := .cells #[.string a1_0, .slice A1_1 l1_1.length c1_1] 54 (0, 0)) u5_) : gb325 ≠ gb307)); clear HO312; clear HO316; clear HO320; clear HO324; clear BK307; clear HB; have HO312 := n0_; have HO316 := n1_; have HO320 := n2_; have HO324 := n3_; have BK307 := n4_; have HB := n5_; have BK325 := n6_; have GW325 := n7_; have GE325 := n8_; have NB307_325 := n9_; have NB325_307 := n10_; clear n0_ n1_ n2_ n3_ n4_ n5_ n6_ n7_ n8_ n9_ n10_; clear hb hbox hg; have hnb111 := NB325_307.out; have hnc111 := NB307_325.out; have hcz112_0 : w110.cell? ⟨gb325, 0, none⟩ = some (.string (⟨#[]⟩ : ByteArray)) := (blk_cell BK325.out 0).trans rfl; have hcz112_1 : w110.cell? ⟨gb325, 1, none⟩ = some (.slice none 0 0) := (blk_cell BK325.out 1).trans rfl; have hfz112_0 := blk_frozen BK325.out 0; have hfz112_1 := blk_frozen BK325.out 1; obtain ⟨Ao113, co113, eo113⟩ := Kd.R_slice HO324.out; subst eo113; obtain ⟨Ao114, co114, eo114⟩ := Kd.R_slice HO320.out; subst eo114) | ((with_reducible refine gate_callee (f := 26) rfl ?_); refine goesL_ (some 31) rfl rfl Tryd.func26 u7_ rfl #[.slice Ao114 t318.length co114, .agg #[.string t321, .slice Ao113 t322.length co113]] rfl u1_ ?_; (with_reducible refine (impl_DocOk.calls k _ _ t318 t321 _ _ t322 t326 _ ?side1 ?side2 ?side3 ?side4 ?side5 A18.out).mono ?_); (case side1 => exact StopsIn.below HG_.out u9_); (case side2 => refine (Kd.R_reads' (e := 75) (base := w.heap.size) (ok := fun k_ => (True ∧ some k_ ≠ (.slice Ao104 t310.length co104 : Value).ownBlock)) (n := t318.length) (c := co114) ?_).2.2; exact u89_); (case side3 => exact (Kd.R_reads' HO320.out).2.1); (case side4 => refine (Kd.R_reads' (e := 46) (base := w.heap.size) (ok := fun k_ => (True ∧ some k_ ≠ (.slice Ao105 t314.length co105 : Value).ownBlock)) (n := t322.length) (c := co113) ?_).2.2; exact u90_); (case side5 => exact (Kd.R_reads' HO324.out).2.1); rintro e w115 ⟨rfl, hb⟩; refine ⟨_, rfl, ?_⟩; have n0_ := Aside0.mk (Kd.R_below (by (with_reducible repeat (first | apply Kd.R_alloc | apply Kd.R_drewN | apply Kd.R_drew)); exact (Kd.R_mono (Kd.R_far (p := ⟨gb325, 1, none⟩) (Kd.R_far (p := ⟨gb325, 0, none⟩) (Kd.R_types HO312.out BK325.out u64_) (fun _ hk => hk.2) (.string t321)) (fun _ hk => hk.2) (.slice Ao113 t322.length co113)) (fun _ h_ => h_.1))) hb); have n1_ := Aside0.mk (Kd.R_below (by (with_reducible repeat (first | apply Kd.R_alloc | apply Kd.R_drewN | apply Kd.R_drew)); exact (Kd.R_mono (Kd.R_far (p := ⟨gb325, 1, none⟩) (Kd.R_far (p := ⟨gb325, 0, none⟩) (Kd.R_types HO316.out BK325.out u64_) (fun _ hk => hk.2) (.string t321)) (fun _ hk => hk.2) (.slice Ao113 t322.length co113)) (fun _ h_ => h_.1))) hb); have n2_ := Aside0.mk (Kd.R_below u89_ hb); have n3_ := Aside0.mk (Kd.R_below u90_ hb); have n4_ := Aside0.mk (blk_below (g := gb307) (o := .cells #[.string a1_0, .slice A1_1 l1_1.length c1_1] 54 (0, 0)) u36_ hb); have n5_ := Aside0.mk (blk_below (g := gb325) (o := .cells #[.string t321, .slice Ao113 t322.length co113] 41 (0, 0)) u29_ hb); have n6_ := Aside0.mk (below_step u9_ hb); clear HO312; clear HO316; clear HO320; clear HO324; clear BK307; clear BK325; clear HB; have HO312 := n0_; have HO316 := n1_; have HO320 := n2_; have HO324 := n3_; have BK307 := n4_; have BK325 := n5_; have HB := n6_; clear n0_ n1_ n2_ n3_ n4_ n5_ n6_; (try clear hb); (try clear hb2); (try clear hk); (try clear hi)) | ((with_reducible refine gate_callee (f := 37) rfl ?_); refine goesL_ (some 37) rfl rfl Tryd.func37 u7_ rfl #[.slice A0 l0.length c0] rfl u1_ ?_; (with_reducible refine (laws_toFieldS.calls k _ _ l0 t327 _ ?side1 ?side2 A39.out).mono ?_); (case side1 => repeat (first | exact (Kd.C_below HR0.out HB.out) | (with_reducible refine Kd.C_alloc ?_ _) | (with_reducible refine Kd.C_drewN ?_ _) | (with_reducible refine Kd.C_drew ?_))); (case side2 => exact HC0.out); rintro e w116 ⟨v328, rfl, ho0, hb⟩; refine ⟨_, rfl, ?_⟩; have n0_ := Aside0.mk (Kd.R_elder' u14_ (Kd.R_base ho0) hb); have n1_ := Aside0.mk (Kd.R_below u18_ hb); have n2_ := Aside0.mk (Kd.R_elder' u24_ (Kd.R_base ho0) hb); have n3_ := Aside0.mk (Kd.R_below u28_ hb); have n4_ := Aside0.mk (Kd.R_lower (Kd.R_new' (Kd.R_new' ho0 (Kd.R_lt u14_)) (Kd.R_lt u24_)) (below_size u9_)); have n5_ := Aside0.mk (blk_below (g := gb307) (o := .cells #[.string a1_0, .slice A1_1 l1_1.length c1_1] 54 (0, 0)) u5_ hb); have n6_ := Aside0.mk (blk_below (g := gb325) (o := .cells #[.string t321, .slice Ao113 t322.length co113] 41 (0, 0)) u41_ hb); have n7_ := Aside0.mk (below_step u9_ hb); clear HO312; clear HO316; clear HO320; clear HO324; clear BK307; clear BK325; clear HB; have HO312 := n0_; have HO316 := n1_; have HO320 := n2_; have HO324 := n3_; have HO329 := n4_; have BK307 := n5_; have BK325 := n6_; have HB := n7_; clear n0_ n1_ n2_ n3_ n4_ n5_ n6_ n7_; (try clear hb); (try clear hb2); (try clear hk); (try clear hi); (try clear ho0); obtain ⟨Ao117, co117, eo117⟩ := Kd.R_slice HO329.out; subst eo117) | ((with_reducible refine gate_callee (f := 22) rfl ?_); refine goesL_ (some 38) rfl rfl Tryd.func22 u7_ rfl #[.slice Ao114 t318.length co114, .slice Ao117 t327.length co117] rfl u1_ ?_; (with_reducible refine (laws_eqFieldS.calls k _ _ t318 _ _ t327 false _ ?side1 ?side2 ?side3 ?side4 A40.out).mono ?_); (case side1 => repeat (first | exact (Kd.R_reads' HO320.out).2.2 | (with_reducible refine Kd.C_alloc ?_ _) | (with_reducible refine Kd.C_drewN ?_ _) | (with_reducible refine Kd.C_drew ?_))); (case side2 => exact (Kd.R_reads' HO320.out).2.1); (case side3 => repeat (first | exact (Kd.R_reads' HO329.out).2.2 | (with_reducible refine Kd.C_alloc ?_ _) | (with_reducible refine Kd.C_drewN ?_ _) | (with_reducible refine Kd.C_drew ?_))); (case side4 => exact (Kd.R_reads' HO329.out).2.1); rintro e w118 ⟨rfl, hb⟩; refine ⟨_, rfl, ?_⟩; have n0_ := Aside0.mk (Kd.R_below u14_ hb); have n1_ := Aside0.mk (Kd.R_below u18_ hb); have n2_ := Aside0.mk (Kd.R_below u24_ hb); have n3_ := Aside0.mk (Kd.R_below u28_ hb); have n4_ := Aside0.mk (Kd.R_below u59_ hb); have n5_ := Aside0.mk (blk_below (g := gb307) (o := .cells #[.string a1_0, .slice A1_1 l1_1.length c1_1] 54 (0, 0)) u5_ hb); have n6_ := Aside0.mk (blk_below (g := gb325) (o := .cells #[.string t321, .slice Ao113 t322.length co113] 41 (0, 0)) u41_ hb); have n7_ := Aside0.mk (below_step u9_ hb); clear HO312; clear HO316; clear HO320; clear HO324; clear HO329; clear BK307; clear BK325; clear HB; have HO312 := n0_; have HO316 := n1_; have HO320 := n2_; have HO324 := n3_; have HO329 := n4_; have BK307 := n5_; have BK325 := n6_; have HB := n7_; clear n0_ n1_ n2_ n3_ n4_ n5_ n6_ n7_; (try clear hb); (try clear hb2); (try clear hk); (try clear hi)))
     go_ret
     exact ⟨u3_, u9_⟩

end Go.Proofs.YtelcdhjdlgedeaaDoor.PFnExactDocOk
