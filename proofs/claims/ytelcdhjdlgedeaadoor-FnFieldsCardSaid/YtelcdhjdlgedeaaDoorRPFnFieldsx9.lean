/- Contracts of Go functions that the law FnFields reaches: each is told as a plain Lean function, with the walk that shows it; no condition beyond what each states. Written by a program of this session round the kit's printer. -/
import Derived.Test.YtelcdhjdlgedeaaDoorRPFnFieldsx0
import Derived.Test.YtelcdhjdlgedeaaDoorRPFnFieldsx2
import Derived.Test.YtelcdhjdlgedeaaDoorRPFnFieldsx5
import Derived.Test.YtelcdhjdlgedeaaDoorRPFnFieldsx6
import Derived.Test.YtelcdhjdlgedeaaDoorRPFnFieldsx7
import Derived.Test.YtelcdhjdlgedeaaDoorRPFnFieldsx8
namespace Go.Proofs.YtelcdhjdlgedeaaDoor.PFnFields
open Go.RowKit Go.Proofs.YtelcdhjdlgedeaaDoorW.PrintWords Go.Proofs.YtelcdhjdlgedeaaDoorW.PrintLast Go.Proofs.YtelcdhjdlgedeaaDoorW.PrintMore
attribute [local go_sem] isSome_setCell run_str_geq run_str_leq max2_int min2_int max_two min_two max_three min_three max_four min_four   -- for this text's walks alone
set_option linter.unusedVariables false
set_option linter.unusedSimpArgs false

/-! ### spec_l11Cut: function 51 -/
def spec_l11Cut.f (k : Nat) (s0_0 : List Int) (s0_1 : Int) (a1 : ByteArray) : Option (ByteArray × Int) := (spec_l1Rd_pick.f k s0_0 s0_1 (wrap64 ((a1.size : Int) + 1))).bind fun bt318 => ((spec_l1Rd_pick.f k s0_0 bt318.2 5).bind fun bt320 => (if bt320.1 = 0 then (if 0 ≤ bt318.1 then (if bt318.1 ≤ (a1.size : Int) then ((spec_l1Rd_of.f k s0_0 bt320.2 (([(⟨#[32]⟩ : ByteArray), (⟨#[58]⟩ : ByteArray), (⟨#[10]⟩ : ByteArray), (⟨#[48]⟩ : ByteArray), (⟨#[120]⟩ : ByteArray), (⟨#[61]⟩ : ByteArray), (⟨#[45]⟩ : ByteArray), (⟨#[41]⟩ : ByteArray)] : List ByteArray))).bind fun bt325 => (if (a1.extract 0 (bt318.1 : Int).toNat).size + bt325.1.size ≤ 9223372036854775807 then (if ((a1.extract 0 (bt318.1 : Int).toNat) ++ bt325.1).size + (a1.extract (bt318.1 : Int).toNat a1.size).size ≤ 9223372036854775807 then (some (((a1.extract 0 (bt318.1 : Int).toNat) ++ bt325.1) ++ (a1.extract (bt318.1 : Int).toNat a1.size), bt325.2)) else (none)) else (none))) else (none)) else (none)) else (if bt320.1 = 1 then (if 0 ≤ bt318.1 then (if bt318.1 ≤ (a1.size : Int) then (some (a1.extract 0 (bt318.1 : Int).toNat, bt320.2)) else (none)) else (none)) else (some (a1, bt320.2)))))
theorem spec_l11Cut.mono : ∀ a0 a1 a2 k, LeO (spec_l11Cut.f k a0 a1 a2) (spec_l11Cut.f (k + 1) a0 a1 a2) := by
 intro a0 a1 a2 k
 unfold spec_l11Cut.f
 repeat' first
   | (with_reducible exact spec_l1Rd_of.mono _ _ _ _)
   | (with_reducible exact spec_l1Rd_pick.mono _ _ _ _)
   | (with_reducible exact LeO.refl _)
   | (with_reducible exact LeO.none _)
   | (with_reducible refine LeO.ite ?_ ?_)
   | (with_reducible refine LeO.bind ?_ (fun _ => ?_))
   | exact spec_l1Rd_of.mono _ _ _ _
   | exact spec_l1Rd_pick.mono _ _ _ _
   | exact LeO.none _
   | refine LeO.ite ?_ ?_
   | refine LeO.bind ?_ (fun _ => ?_)
def spec_l11Cut.T4 : Bool × List (List Nat × List Nat) := (true, [([], []), ([], []), ([0, 1], [0, 1]), ([], []), ([], []), ([3, 4], [3, 4]), ([2, 5], [2, 5]), ([], []), ([], []), ([7, 8], [7, 8]), ([6, 9], [6, 9]), ([10, 5, 0, 1, 2, 3, 4, 5, 6, 7, 8, 9, 10], [10])])
def spec_l11Cut.B4 : List Nat := [0, 0, 3, 0, 0, 24, 63, 0, 0, 384, 1023, 2047]
theorem spec_l11Cut.tab4 : rtab .any (opsOf Tryd.f51 4) = spec_l11Cut.T4 := by kernel_rfl
theorem spec_l11Cut.bits4 : waitsOk spec_l11Cut.T4.2 spec_l11Cut.B4 = true := by kernel_rfl
set_option maxHeartbeats 8000000 in
set_option maxRecDepth 100000 in
theorem spec_l11Cut.calls (k : Nat) (g : Nat) (s0_0 : List Int) (s0_1 : Int) (a1 : ByteArray) (r1 : ByteArray) (r2 : Int) (w0 w : World) (hI : IsS99 w0 w g s0_0 s0_1) (hB : Below w0.heap.size w0 w) (h : spec_l11Cut.f k s0_0 s0_1 a1 = some (r1, r2)) :
  Calls Tryd.prog 51 #[.pointer (some ⟨g, 0, none⟩), .string a1] w fun e w' => e = .returned (.string r1) ∧ IsS99 w0 w' g s0_0 r2 ∧ Below w0.heap.size w0 w' ∧ KeepBut w w' g none := by
 have HI0 := Aside0.mk hI
 have HK := Aside0.mk (KeepBut.refl w g none)
 have HL := Aside0.mk hB.size
 clear hI
 have HW0 := Aside0.mk hB.size
 have HB := Aside0.mk hB
 clear hB
 have H : ((spec_l1Rd_pick.f k s0_0 s0_1 (wrap64 ((a1.size : Int) + 1))).bind fun bt318 => ((spec_l1Rd_pick.f k s0_0 bt318.2 5).bind fun bt320 => (if bt320.1 = 0 then (if 0 ≤ bt318.1 then (if bt318.1 ≤ (a1.size : Int) then ((spec_l1Rd_of.f k s0_0 bt320.2 (([(⟨#[32]⟩ : ByteArray), (⟨#[58]⟩ : ByteArray), (⟨#[10]⟩ : ByteArray), (⟨#[48]⟩ : ByteArray), (⟨#[120]⟩ : ByteArray), (⟨#[61]⟩ : ByteArray), (⟨#[45]⟩ : ByteArray), (⟨#[41]⟩ : ByteArray)] : List ByteArray))).bind fun bt325 => (if (a1.extract 0 (bt318.1 : Int).toNat).size + bt325.1.size ≤ 9223372036854775807 then (if ((a1.extract 0 (bt318.1 : Int).toNat) ++ bt325.1).size + (a1.extract (bt318.1 : Int).toNat a1.size).size ≤ 9223372036854775807 then (some (((a1.extract 0 (bt318.1 : Int).toNat) ++ bt325.1) ++ (a1.extract (bt318.1 : Int).toNat a1.size), bt325.2)) else (none)) else (none))) else (none)) else (none)) else (if bt320.1 = 1 then (if 0 ≤ bt318.1 then (if bt318.1 ≤ (a1.size : Int) then (some (a1.extract 0 (bt318.1 : Int).toNat, bt320.2)) else (none)) else (none)) else (some (a1, bt320.2)))))) = some (r1, r2) := h
 clear h
 replace H := Option.bind_eq_some_iff.mp H
 obtain ⟨⟨t318, t319⟩, A30, H⟩ := H
 replace H : ((spec_l1Rd_pick.f k s0_0 t319 5).bind fun bt320 => (if bt320.1 = 0 then (if 0 ≤ t318 then (if t318 ≤ (a1.size : Int) then ((spec_l1Rd_of.f k s0_0 bt320.2 (([(⟨#[32]⟩ : ByteArray), (⟨#[58]⟩ : ByteArray), (⟨#[10]⟩ : ByteArray), (⟨#[48]⟩ : ByteArray), (⟨#[120]⟩ : ByteArray), (⟨#[61]⟩ : ByteArray), (⟨#[45]⟩ : ByteArray), (⟨#[41]⟩ : ByteArray)] : List ByteArray))).bind fun bt325 => (if (a1.extract 0 (t318 : Int).toNat).size + bt325.1.size ≤ 9223372036854775807 then (if ((a1.extract 0 (t318 : Int).toNat) ++ bt325.1).size + (a1.extract (t318 : Int).toNat a1.size).size ≤ 9223372036854775807 then (some (((a1.extract 0 (t318 : Int).toNat) ++ bt325.1) ++ (a1.extract (t318 : Int).toNat a1.size), bt325.2)) else (none)) else (none))) else (none)) else (none)) else (if bt320.1 = 1 then (if 0 ≤ t318 then (if t318 ≤ (a1.size : Int) then (some (a1.extract 0 (t318 : Int).toNat, bt320.2)) else (none)) else (none)) else (some (a1, bt320.2))))) = some (r1, r2) := H
 have A3 := Aside0.mk A30
 clear A30
 replace H := Option.bind_eq_some_iff.mp H
 obtain ⟨⟨t320, t321⟩, A40, H⟩ := H
 replace H : (if t320 = 0 then (if 0 ≤ t318 then (if t318 ≤ (a1.size : Int) then ((spec_l1Rd_of.f k s0_0 t321 (([(⟨#[32]⟩ : ByteArray), (⟨#[58]⟩ : ByteArray), (⟨#[10]⟩ : ByteArray), (⟨#[48]⟩ : ByteArray), (⟨#[120]⟩ : ByteArray), (⟨#[61]⟩ : ByteArray), (⟨#[45]⟩ : ByteArray), (⟨#[41]⟩ : ByteArray)] : List ByteArray))).bind fun bt325 => (if (a1.extract 0 (t318 : Int).toNat).size + bt325.1.size ≤ 9223372036854775807 then (if ((a1.extract 0 (t318 : Int).toNat) ++ bt325.1).size + (a1.extract (t318 : Int).toNat a1.size).size ≤ 9223372036854775807 then (some (((a1.extract 0 (t318 : Int).toNat) ++ bt325.1) ++ (a1.extract (t318 : Int).toNat a1.size), bt325.2)) else (none)) else (none))) else (none)) else (none)) else (if t320 = 1 then (if 0 ≤ t318 then (if t318 ≤ (a1.size : Int) then (some (a1.extract 0 (t318 : Int).toNat, t321)) else (none)) else (none)) else (some (a1, t321)))) = some (r1, r2) := H
 have A4 := Aside0.mk A40
 clear A40
 by_cases c5 : t320 = 0
 ·rw [if_pos c5] at H
  have c5b0 : (t320 == 0) = true := beq_iff_eq.mpr c5
  have c5b1 : (t320 != 0) = false := bne_eq_false_iff_eq.mpr c5
  clear c5
  by_cases c6 : 0 ≤ t318
  ·rw [if_pos c6] at H
   have c6b0 := eq_true c6
   have c6b1 : decide (0 ≤ t318) = true := decide_eq_true c6
   clear c6
   by_cases c7 : t318 ≤ (a1.size : Int)
   ·rw [if_pos c7] at H
    have c7b0 := eq_true c7
    have c7b1 : decide (t318 ≤ (a1.size : Int)) = true := decide_eq_true c7
    clear c7
    obtain ⟨y322, hy322⟩ : ∃ y_ : List ByteArray, y_ = (([(⟨#[32]⟩ : ByteArray), (⟨#[58]⟩ : ByteArray), (⟨#[10]⟩ : ByteArray), (⟨#[48]⟩ : ByteArray), (⟨#[120]⟩ : ByteArray), (⟨#[61]⟩ : ByteArray), (⟨#[45]⟩ : ByteArray), (⟨#[41]⟩ : ByteArray)] : List ByteArray)) := ⟨_, rfl⟩
    replace H : ((spec_l1Rd_of.f k s0_0 t321 y322).bind fun bt325 => (if (a1.extract 0 (t318 : Int).toNat).size + bt325.1.size ≤ 9223372036854775807 then (if ((a1.extract 0 (t318 : Int).toNat) ++ bt325.1).size + (a1.extract (t318 : Int).toNat a1.size).size ≤ 9223372036854775807 then (some (((a1.extract 0 (t318 : Int).toNat) ++ bt325.1) ++ (a1.extract (t318 : Int).toNat a1.size), bt325.2)) else (none)) else (none))) = some (r1, r2) := by first | (rw [hy322]; with_reducible exact H) | (have H2_ := (Option.bind_some _ _).symm.trans H; rw [hy322]; with_reducible exact H2_) | (have H2_ := (Option.bind_some _ _).symm.trans H; with_reducible exact H2_) | with_reducible exact H | (rw [hy322]; exact H) | exact H
    have Ny322 := Aside0.mk hy322
    clear hy322
    replace H := Option.bind_eq_some_iff.mp H
    obtain ⟨⟨t325, t326⟩, A80, H⟩ := H
    replace H : (if (a1.extract 0 (t318 : Int).toNat).size + t325.size ≤ 9223372036854775807 then (if ((a1.extract 0 (t318 : Int).toNat) ++ t325).size + (a1.extract (t318 : Int).toNat a1.size).size ≤ 9223372036854775807 then (some (((a1.extract 0 (t318 : Int).toNat) ++ t325) ++ (a1.extract (t318 : Int).toNat a1.size), t326)) else (none)) else (none)) = some (r1, r2) := H
    have A8 := Aside0.mk A80
    clear A80
    by_cases c9 : (a1.extract 0 (t318 : Int).toNat).size + t325.size ≤ 9223372036854775807
    ·rw [if_pos c9] at H
     have c9b0 := eq_true c9
     have c9b1 : decide ((a1.extract 0 (t318 : Int).toNat).size + t325.size ≤ 9223372036854775807) = true := decide_eq_true c9
     try have c9b2 : (9223372036854775807 < (a1.extract 0 (t318 : Int).toNat).size + t325.size) = False := eq_false (Nat.not_lt.2 c9)
     try have c9s3 : (9223372036854775807 < t318.toNat + t325.size) = False := eq_false (by have g0_ : (0 : Int) ≤ t318 := of_decide_eq_true u3_; have g1_ : t318 ≤ (a1.size : Int) := of_decide_eq_true u3_; have h_ := c9; simp only [ByteArray.size_append, ByteArray.size_extract] at h_; omega)
     have c10b0 := eq_true (of_decide_eq_true u3_ : 0 ≤ t318)
     have c11b0 := eq_true (of_decide_eq_true u3_ : t318 ≤ (a1.size : Int))
     by_cases c12 : ((a1.extract 0 (t318 : Int).toNat) ++ t325).size + (a1.extract (t318 : Int).toNat a1.size).size ≤ 9223372036854775807
     ·rw [if_pos c12] at H
      have c12b0 := eq_true c12
      have c12b1 : decide (((a1.extract 0 (t318 : Int).toNat) ++ t325).size + (a1.extract (t318 : Int).toNat a1.size).size ≤ 9223372036854775807) = true := decide_eq_true c12
      try have c12b2 : (9223372036854775807 < ((a1.extract 0 (t318 : Int).toNat) ++ t325).size + (a1.extract (t318 : Int).toNat a1.size).size) = False := eq_false (Nat.not_lt.2 c12)
      try have c12s3 : (9223372036854775807 < t318.toNat + t325.size + (a1.size - t318.toNat)) = False := eq_false (by have g0_ : (0 : Int) ≤ t318 := of_decide_eq_true u3_; have g1_ : t318 ≤ (a1.size : Int) := of_decide_eq_true u3_; have h_ := c12; simp only [ByteArray.size_append, ByteArray.size_extract] at h_; omega)
      try have c12b3 := c12; try simp only [ByteArray.size_append, size_lit, List.size_toArray, List.length_cons, List.length_nil, Nat.zero_add, Nat.reduceAdd] at c12b3; try have c12b4 := eq_true c12b3; try have c12b5 := decide_eq_true c12b3; try have c12b6 := eq_false (Nat.not_lt.2 c12b3)
      try have c12b7 := c12b3; try simp at c12b7; try have c12b8 := eq_true c12b7; try have c12b9 := decide_eq_true c12b7; try have c12bA := eq_false (Nat.not_lt.2 c12b7)
      simp only [Option.some.injEq, Prod.mk.injEq] at H
      obtain ⟨rfl, rfl⟩ := H
      go_enter Tryd.func51, Tryd.ntmps51
      try go_wp2_with (first | ((with_reducible refine gate_callee (f := 78) rfl ?_); refine goesL_ (some 10) rfl rfl Tryd.func78 u20_ rfl #[.pointer (some ⟨g, 0, none⟩), .int .i64 (wrap64 ((a1.size : Int) + 1))] rfl u1_ ?_; (with_reducible refine (spec_l1Rd_pick.calls k g s0_0 s0_1 (wrap64 ((a1.size : Int) + 1)) t318 t319 w0 _ ?side1 ?side2 A3.out).mono ?_); (case side1 => repeat (first | (with_reducible first | exact HI0.out | apply IsS99.alloc | apply IsS99.drewN | apply IsS99.drew | apply IsS99.set_1) | exact HI0.out)); (case side2 => repeat (first | (with_reducible first | exact HB.out | apply below_alloc | apply pw_below_drewN | apply below_drew1 | refine below_set ?_ (IsS99.ge HI0.out)) | exact HB.out)); rintro e w13 ⟨rfl, hi, hb, hk⟩; refine ⟨_, rfl, ?_⟩; have n0_ := Aside0.mk (KeepBut.trans u2_ hk (.inl rfl)); have n1_ := Aside0.mk (hb); have n2_ := Aside0.mk (hi); clear HK; clear HB; clear HI0; have HK := n0_; have HB := n1_; have HI0 := n2_; clear n0_ n1_ n2_; (try clear hb); (try clear hb2); (try clear hk); (try clear hi)) | ((with_reducible refine gate_callee (f := 78) rfl ?_); refine goesL_ (some 12) rfl rfl Tryd.func78 u20_ rfl #[.pointer (some ⟨g, 0, none⟩), .int .i64 5] rfl u1_ ?_; (with_reducible refine (spec_l1Rd_pick.calls k g s0_0 t319 5 t320 t321 w0 _ ?side1 ?side2 A4.out).mono ?_); (case side1 => repeat (first | (with_reducible first | exact HI0.out | apply IsS99.alloc | apply IsS99.drewN | apply IsS99.drew | apply IsS99.set_1) | exact HI0.out)); (case side2 => repeat (first | (with_reducible first | exact HB.out | apply below_alloc | apply pw_below_drewN | apply below_drew1 | refine below_set ?_ (IsS99.ge HI0.out)) | exact HB.out)); rintro e w14 ⟨rfl, hi, hb, hk⟩; refine ⟨_, rfl, ?_⟩; have n0_ := Aside0.mk (KeepBut.trans u2_ hk (.inl rfl)); have n1_ := Aside0.mk (hb); have n2_ := Aside0.mk (hi); clear HK; clear HB; clear HI0; have HK := n0_; have HB := n1_; have HI0 := n2_; clear n0_ n1_ n2_; (try clear hb); (try clear hb2); (try clear hk); (try clear hi)))
      have n0_ := Aside0.mk (IsS99.drew HI0.out)
      have n1_ := Aside0.mk (keep_drew HK.out)
      have n2_ := Aside0.mk (below_drew1 HB.out)
      clear HI0
      clear HK
      clear HB
      have HI0 := n0_
      have HK := n1_
      have HB := n2_
      clear n0_ n1_ n2_
      refine start_ (n := 12) (S := fun w' => True) (ds := []) #[false, false, false, false, false, false, false, false, false, false, false, false] u20_ rfl rfl trivial (fun hHeld => ?_); refine with_tabW spec_l11Cut.tab4 spec_l11Cut.bits4 (fun HT_ HW_ => ?_)
      generalize w14.drew = w15 at HI0 HK HB hHeld ⊢
      refine pure_ (i := 0) (N := some 15) (v := ?_) (a' := ?_) #[true, false, false, false, false, false, false, false, false, false, false, false] rfl rfl (any_of HT_.out u20_) (fun _ _ _ h => h) (Or.inl ⟨by rfl, ?_⟩) ?_ ?_
      rotate_left
      ·intro w'
       go_simp
       with_reducible rfl
      rotate_left
      ·simp only [Act.put, List.setIfInBounds_toArray, List.set_cons_zero, List.set_cons_succ, i64_w, i32_w]
       rfl
      refine pure_ (i := 1) (N := some 16) (v := ?_) (a' := ?_) #[true, true, false, false, false, false, false, false, false, false, false, false] rfl rfl (any_of HT_.out u20_) (fun _ _ _ h => h) (Or.inl ⟨by rfl, ?_⟩) ?_ ?_
      rotate_left
      ·intro w'
       go_simp
       with_reducible rfl
      rotate_left
      ·simp only [Act.put, List.setIfInBounds_toArray, List.set_cons_zero, List.set_cons_succ, i64_w, i32_w]
       rfl
      refine pure_ (i := 2) (N := some 17) (v := ?_) (a' := ?_) #[true, true, true, false, false, false, false, false, false, false, false, false] rfl rfl (any_of HT_.out u20_) (fun _ _ _ h => h) (Or.inl ⟨by rfl, ?_⟩) ?_ ?_
      rotate_left
      ·intro w'
       go_simp
       with_reducible rfl
      rotate_left
      ·simp only [Act.put, List.setIfInBounds_toArray, List.set_cons_zero, List.set_cons_succ, i64_w, i32_w]
       rfl
      refine pure_ (i := 3) (N := some 18) (v := ?_) (a' := ?_) #[true, true, true, true, false, false, false, false, false, false, false, false] rfl rfl (any_of HT_.out u20_) (fun _ _ _ h => h) (Or.inl ⟨by rfl, ?_⟩) ?_ ?_
      rotate_left
      ·intro w'
       go_simp
       with_reducible rfl
      rotate_left
      ·simp only [Act.put, List.setIfInBounds_toArray, List.set_cons_zero, List.set_cons_succ, i64_w, i32_w]
       rfl
      refine pure_ (i := 7) (N := some 22) (v := ?_) (a' := ?_) #[true, true, true, true, false, false, false, true, false, false, false, false] rfl rfl (any_of HT_.out u20_) (fun _ _ _ h => h) (Or.inl ⟨by rfl, ?_⟩) ?_ ?_
      rotate_left
      ·intro w'
       go_simp
       with_reducible rfl
      rotate_left
      ·simp only [Act.put, List.setIfInBounds_toArray, List.set_cons_zero, List.set_cons_succ, i64_w, i32_w]
       rfl
      refine pure_ (i := 8) (N := some 23) (v := ?_) (a' := ?_) #[true, true, true, true, false, false, false, true, true, false, false, false] rfl rfl (any_of HT_.out u20_) (fun _ _ _ h => h) (Or.inl ⟨by rfl, ?_⟩) ?_ ?_
      rotate_left
      ·intro w'
       go_simp
       with_reducible rfl
      rotate_left
      ·simp only [Act.put, List.setIfInBounds_toArray, List.set_cons_zero, List.set_cons_succ, i64_w, i32_w]
       rfl
      refine pure_ (i := 9) (N := some 24) (v := ?_) (a' := ?_) #[true, true, true, true, false, false, false, true, true, true, false, false] rfl rfl (any_of HT_.out u20_) (fun _ _ _ h => h) (Or.inl ⟨by rfl, ?_⟩) ?_ ?_
      rotate_left
      ·intro w'
       go_simp
       with_reducible rfl
      rotate_left
      ·simp only [Act.put, List.setIfInBounds_toArray, List.set_cons_zero, List.set_cons_succ, i64_w, i32_w]
       rfl
      refine one_ (i := 4) (N := some 19) #[true, true, true, true, true, false, false, true, true, true, false, false] rfl rfl (one_of HT_.out u20_) u31_ (fun K hK => ?_)
      refine Kd.R_lit_step Kd.string _ 9 ?hg (N := 19) ?hd (xs := ([(⟨#[32]⟩ : ByteArray), (⟨#[58]⟩ : ByteArray), (⟨#[10]⟩ : ByteArray), (⟨#[48]⟩ : ByteArray), (⟨#[120]⟩ : ByteArray), (⟨#[61]⟩ : ByteArray), (⟨#[45]⟩ : ByteArray), (⟨#[41]⟩ : ByteArray)] : List ByteArray)) (inner := [.string (⟨#[32]⟩ : ByteArray), .string (⟨#[58]⟩ : ByteArray), .string (⟨#[10]⟩ : ByteArray), .string (⟨#[48]⟩ : ByteArray), .string (⟨#[120]⟩ : ByteArray), .string (⟨#[61]⟩ : ByteArray), .string (⟨#[45]⟩ : ByteArray), .string (⟨#[41]⟩ : ByteArray)]) (ok := fun _ => True) (okp := fun _ => True) ?hr ?hp (fun _ hk => hk) trivial (Below.refl _ _) (Nat.le_refl _) u43_ ?_; (case hd => rfl); (case hg => rfl); (case hr => first | (go_simp; done) | (go_simp; rfl)); (case hp => exact (Reps.one (show Kd.M Kd.string _ _ _ (⟨#[32]⟩ : ByteArray) [.string (⟨#[32]⟩ : ByteArray)] from rfl) (Reps.one (show Kd.M Kd.string _ _ _ (⟨#[58]⟩ : ByteArray) [.string (⟨#[58]⟩ : ByteArray)] from rfl) (Reps.one (show Kd.M Kd.string _ _ _ (⟨#[10]⟩ : ByteArray) [.string (⟨#[10]⟩ : ByteArray)] from rfl) (Reps.one (show Kd.M Kd.string _ _ _ (⟨#[48]⟩ : ByteArray) [.string (⟨#[48]⟩ : ByteArray)] from rfl) (Reps.one (show Kd.M Kd.string _ _ _ (⟨#[120]⟩ : ByteArray) [.string (⟨#[120]⟩ : ByteArray)] from rfl) (Reps.one (show Kd.M Kd.string _ _ _ (⟨#[61]⟩ : ByteArray) [.string (⟨#[61]⟩ : ByteArray)] from rfl) (Reps.one (show Kd.M Kd.string _ _ _ (⟨#[45]⟩ : ByteArray) [.string (⟨#[45]⟩ : ByteArray)] from rfl) (Reps.one (show Kd.M Kd.string _ _ _ (⟨#[41]⟩ : ByteArray) [.string (⟨#[41]⟩ : ByteArray)] from rfl) (Reps.none _ _))))))))))
      intro v323 w16 ho17 hb hg_ hnew_
      clear hg_ hnew_
      (first | rw [← Ny322.out] at ho17 | (simp only [Int.reduceToNat] at ho17; rw [← Ny322.out] at ho17))
      have n0_ := Aside0.mk (Kd.R_lower ho17 (keep_size (w := w) (g := g) (row := none) u2_))
      have n1_ := Aside0.mk (IsS99.below u6_ hb)
      have n2_ := Aside0.mk (KeepBut.trans u2_ (KeepBut.of_below hb g none) (.inl rfl))
      have n3_ := Aside0.mk (below_step u5_ hb)
      clear HI0
      clear HK
      clear HB
      have HO324 := n0_
      have HI0 := n1_
      have HK := n2_
      have HB := n3_
      clear n0_ n1_ n2_ n3_
      clear hb ho17
      obtain ⟨Ao18, co18, eo18⟩ := Kd.R_slice HO324.out
      (first | subst eo18 | (injection eo18 with f1_ f2_ f3_; have f4_ := f1_.symm; have f5_ := f3_.symm; clear f1_ f2_ f3_; subst f4_; subst f5_))
      refine hK.out _ _ trivial (fun hHeld => ?_)
      clear hK K
      refine norm_ (a' := ?_) ?_ ?_
      rotate_left
      ·show Act.put _ (some 19) _ = _
       simp only [Act.put, List.setIfInBounds_toArray, List.set_cons_zero, List.set_cons_succ, i64_w, i32_w]
       rfl
      refine one_ (i := 5) (N := some 20) #[true, true, true, true, true, true, false, true, true, true, false, false] rfl rfl (one_of HT_.out u20_) u31_ (fun K hK => ?_)
      refine goes_ Tryd.func84 u20_ rfl #[.pointer (some ⟨g, 0, none⟩), .slice Ao18 y322.length co18] (by rfl) rfl rfl u1_ ?_
      with_reducible refine (spec_l1Rd_of.calls k g s0_0 t321 _ _ y322 t325 t326 w0 _ ?side1 ?side2 ?side3 ?side4 ?side5 A8.out).mono ?_
      (case side1 => repeat (first | (with_reducible first | exact HI0.out | apply IsS99.alloc | apply IsS99.drewN | apply IsS99.drew | apply IsS99.set_1) | exact HI0.out))
      (case side2 => repeat (first | (with_reducible first | exact HB.out | apply below_alloc | apply pw_below_drewN | apply below_drew1 | refine below_set ?_ (IsS99.ge HI0.out)) | exact HB.out))
      (case side3 => repeat (first | exact (Kd.R_reads' HO324.out).2.2 | (with_reducible refine Kd.C_alloc ?_ _) | (with_reducible refine Kd.C_drewN ?_ _) | (with_reducible refine Kd.C_drew ?_)))
      (case side4 => exact (Kd.R_reads' HO324.out).2.1)
      (case side5 => exact far_slice (IsS99.own_ne HI0.out HO324.out u31_))
      rintro e w19 ⟨rfl, hi, hb, hk⟩
      refine ⟨_, rfl, ?_⟩
      have n0_ := Aside0.mk (Kd.R_mono (Kd.R_keep (IsS99.apart (show IsS99 w0 _ g s0_0 t321 from by repeat (first | (with_reducible first | exact HI0.out | apply IsS99.alloc | apply IsS99.drewN | apply IsS99.drew | apply IsS99.set_1) | exact HI0.out)) (by (with_reducible repeat (first | apply Kd.R_alloc | apply Kd.R_drewN | apply Kd.R_drew)); exact HO324.out) u31_) hk (fun _ h => h.2)) (fun _ h => h.1))
      have n1_ := Aside0.mk (KeepBut.trans u2_ hk (.inl rfl))
      have n2_ := Aside0.mk (hb)
      have n3_ := Aside0.mk (hi)
      clear HO324
      clear HK
      clear HB
      clear HI0
      have HO324 := n0_
      have HK := n1_
      have HB := n2_
      have HI0 := n3_
      clear n0_ n1_ n2_ n3_
      (try clear hb)
      (try clear hb2)
      (try clear hk)
      (try clear hi)
      refine hK.out _ _ trivial (fun hHeld => ?_)
      clear hK K
      refine norm_ (a' := ?_) ?_ ?_
      rotate_left
      ·show Act.put _ (some 20) _ = _
       simp only [Act.put, List.setIfInBounds_toArray, List.set_cons_zero, List.set_cons_succ, i64_w, i32_w]
       rfl
      refine pure_ (i := 6) (N := some 21) (v := ?_) (a' := ?_) #[true, true, true, true, true, true, true, true, true, true, false, false] rfl rfl (any_of HT_.out u20_) (fun _ _ _ h => h) (Or.inl ⟨by rfl, ?_⟩) ?_ ?_
      rotate_left
      ·intro w'
       go_simp
       with_reducible rfl
      rotate_left
      ·simp only [Act.put, List.setIfInBounds_toArray, List.set_cons_zero, List.set_cons_succ, i64_w, i32_w]
       rfl
      refine pure_ (i := 10) (N := some 25) (v := ?_) (a' := ?_) #[true, true, true, true, true, true, true, true, true, true, true, false] rfl rfl (any_of HT_.out u20_) (fun _ _ _ h => h) (Or.inl ⟨by rfl, ?_⟩) ?_ ?_
      rotate_left
      ·intro w'
       go_simp
       with_reducible rfl
      rotate_left
      ·simp only [Act.put, List.setIfInBounds_toArray, List.set_cons_zero, List.set_cons_succ, i64_w, i32_w]
       rfl
      refine pure_ (i := 11) (N := some 4) (v := ?_) (a' := ?_) #[true, true, true, true, true, true, true, true, true, true, true, true] rfl rfl (any_of HT_.out u20_) (fun _ _ _ h => h) (Or.inl ⟨by rfl, ?_⟩) ?_ ?_
      rotate_left
      ·intro w'
       go_simp
       with_reducible rfl
      rotate_left
      ·simp only [Act.put, List.setIfInBounds_toArray, List.set_cons_zero, List.set_cons_succ, i64_w, i32_w]
       rfl
      refine done_ (done_of HT_.out u20_) ?_
      try go_wp2
      go_ret
      exact ⟨u4_, u6_, u5_, u2_⟩
     ·rw [if_neg c12] at H
      exact absurd H u43_
    ·rw [if_neg c9] at H
     exact absurd H u43_
   ·rw [if_neg c7] at H
    exact absurd H u43_
  ·rw [if_neg c6] at H
   exact absurd H u43_
 ·rw [if_neg c5] at H
  have c5b0 : (t320 == 0) = false := beq_eq_false_iff_ne.mpr c5
  have c5b1 : (t320 != 0) = true := bne_iff_ne.mpr c5
  by_cases c20 : t320 = 1
  ·rw [if_pos c20] at H
   have c20b0 : (t320 == 1) = true := beq_iff_eq.mpr c20
   have c20b1 : (t320 != 1) = false := bne_eq_false_iff_eq.mpr c20
   clear c20
   by_cases c21 : 0 ≤ t318
   ·rw [if_pos c21] at H
    have c21b0 := eq_true c21
    have c21b1 : decide (0 ≤ t318) = true := decide_eq_true c21
    clear c21
    by_cases c22 : t318 ≤ (a1.size : Int)
    ·rw [if_pos c22] at H
     have c22b0 := eq_true c22
     have c22b1 : decide (t318 ≤ (a1.size : Int)) = true := decide_eq_true c22
     clear c22
     simp only [Option.some.injEq, Prod.mk.injEq] at H
     obtain ⟨rfl, rfl⟩ := H
     go_enter Tryd.func51, Tryd.ntmps51
     go_wp2_with (first | ((with_reducible refine gate_callee (f := 78) rfl ?_); refine goesL_ (some 10) rfl rfl Tryd.func78 u20_ rfl #[.pointer (some ⟨g, 0, none⟩), .int .i64 (wrap64 ((a1.size : Int) + 1))] rfl u1_ ?_; (with_reducible refine (spec_l1Rd_pick.calls k g s0_0 s0_1 (wrap64 ((a1.size : Int) + 1)) t318 t319 w0 _ ?side1 ?side2 A3.out).mono ?_); (case side1 => repeat (first | (with_reducible first | exact HI0.out | apply IsS99.alloc | apply IsS99.drewN | apply IsS99.drew | apply IsS99.set_1) | exact HI0.out)); (case side2 => repeat (first | (with_reducible first | exact HB.out | apply below_alloc | apply pw_below_drewN | apply below_drew1 | refine below_set ?_ (IsS99.ge HI0.out)) | exact HB.out)); rintro e w23 ⟨rfl, hi, hb, hk⟩; refine ⟨_, rfl, ?_⟩; have n0_ := Aside0.mk (KeepBut.trans u2_ hk (.inl rfl)); have n1_ := Aside0.mk (hb); have n2_ := Aside0.mk (hi); clear HK; clear HB; clear HI0; have HK := n0_; have HB := n1_; have HI0 := n2_; clear n0_ n1_ n2_; (try clear hb); (try clear hb2); (try clear hk); (try clear hi)) | ((with_reducible refine gate_callee (f := 78) rfl ?_); refine goesL_ (some 12) rfl rfl Tryd.func78 u20_ rfl #[.pointer (some ⟨g, 0, none⟩), .int .i64 5] rfl u1_ ?_; (with_reducible refine (spec_l1Rd_pick.calls k g s0_0 t319 5 t320 t321 w0 _ ?side1 ?side2 A4.out).mono ?_); (case side1 => repeat (first | (with_reducible first | exact HI0.out | apply IsS99.alloc | apply IsS99.drewN | apply IsS99.drew | apply IsS99.set_1) | exact HI0.out)); (case side2 => repeat (first | (with_reducible first | exact HB.out | apply below_alloc | apply pw_below_drewN | apply below_drew1 | refine below_set ?_ (IsS99.ge HI0.out)) | exact HB.out)); rintro e w24 ⟨rfl, hi, hb, hk⟩; refine ⟨_, rfl, ?_⟩; have n0_ := Aside0.mk (KeepBut.trans u2_ hk (.inl rfl)); have n1_ := Aside0.mk (hb); have n2_ := Aside0.mk (hi); clear HK; clear HB; clear HI0; have HK := n0_; have HB := n1_; have HI0 := n2_; clear n0_ n1_ n2_; (try clear hb); (try clear hb2); (try clear hk); (try clear hi)))
     go_ret
     exact ⟨u4_, u6_, u5_, u2_⟩
    ·rw [if_neg c22] at H
     exact absurd H u43_
   ·rw [if_neg c21] at H
    exact absurd H u43_
  ·rw [if_neg c20] at H
   have c20b0 : (t320 == 1) = false := beq_eq_false_iff_ne.mpr c20
   have c20b1 : (t320 != 1) = true := bne_iff_ne.mpr c20
   simp only [Option.some.injEq, Prod.mk.injEq] at H
   obtain ⟨rfl, rfl⟩ := H
   go_enter Tryd.func51, Tryd.ntmps51
   go_wp2_with (first | ((with_reducible refine gate_callee (f := 78) rfl ?_); refine goesL_ (some 10) rfl rfl Tryd.func78 u20_ rfl #[.pointer (some ⟨g, 0, none⟩), .int .i64 (wrap64 ((a1.size : Int) + 1))] rfl u1_ ?_; (with_reducible refine (spec_l1Rd_pick.calls k g s0_0 s0_1 (wrap64 ((a1.size : Int) + 1)) t318 t319 w0 _ ?side1 ?side2 A3.out).mono ?_); (case side1 => repeat (first | (with_reducible first | exact HI0.out | apply IsS99.alloc | apply IsS99.drewN | apply IsS99.drew | apply IsS99.set_1) | exact HI0.out)); (case side2 => repeat (first | (with_reducible first | exact HB.out | apply below_alloc | apply pw_below_drewN | apply below_drew1 | refine below_set ?_ (IsS99.ge HI0.out)) | exact HB.out)); rintro e w25 ⟨rfl, hi, hb, hk⟩; refine ⟨_, rfl, ?_⟩; have n0_ := Aside0.mk (KeepBut.trans u2_ hk (.inl rfl)); have n1_ := Aside0.mk (hb); have n2_ := Aside0.mk (hi); clear HK; clear HB; clear HI0; have HK := n0_; have HB := n1_; have HI0 := n2_; clear n0_ n1_ n2_; (try clear hb); (try clear hb2); (try clear hk); (try clear hi)) | ((with_reducible refine gate_callee (f := 78) rfl ?_); refine goesL_ (some 12) rfl rfl Tryd.func78 u20_ rfl #[.pointer (some ⟨g, 0, none⟩), .int .i64 5] rfl u1_ ?_; (with_reducible refine (spec_l1Rd_pick.calls k g s0_0 t319 5 t320 t321 w0 _ ?side1 ?side2 A4.out).mono ?_); (case side1 => repeat (first | (with_reducible first | exact HI0.out | apply IsS99.alloc | apply IsS99.drewN | apply IsS99.drew | apply IsS99.set_1) | exact HI0.out)); (case side2 => repeat (first | (with_reducible first | exact HB.out | apply below_alloc | apply pw_below_drewN | apply below_drew1 | refine below_set ?_ (IsS99.ge HI0.out)) | exact HB.out)); rintro e w26 ⟨rfl, hi, hb, hk⟩; refine ⟨_, rfl, ?_⟩; have n0_ := Aside0.mk (KeepBut.trans u2_ hk (.inl rfl)); have n1_ := Aside0.mk (hb); have n2_ := Aside0.mk (hi); clear HK; clear HB; clear HI0; have HK := n0_; have HB := n1_; have HI0 := n2_; clear n0_ n1_ n2_; (try clear hb); (try clear hb2); (try clear hk); (try clear hi)))
   go_ret
   exact ⟨u4_, u6_, u5_, u2_⟩

/-! ### spec_DrawFieldsGet: function 34 -/
def spec_DrawFieldsGet.f (k : Nat) (l0 : List Int) : Option (ByteArray) := (spec_l1Open.f l0).bind fun bt327 => ((spec_l11Fields.f k bt327.1 bt327.2).bind fun bt330 => ((spec_FieldsPut.f k bt330.1).bind fun t334 => ((spec_l11Cut.f k bt327.1 bt330.2 t334).bind fun bt335 => (some bt335.1))))
theorem spec_DrawFieldsGet.mono : ∀ a0 k, LeO (spec_DrawFieldsGet.f k a0) (spec_DrawFieldsGet.f (k + 1) a0) := by
 intro a0 k
 unfold spec_DrawFieldsGet.f
 repeat' first
   | (with_reducible exact spec_FieldsPut.mono _ _)
   | (with_reducible exact spec_l11Cut.mono _ _ _ _)
   | (with_reducible exact spec_l11Fields.mono _ _ _)
   | (with_reducible exact LeO.refl _)
   | (with_reducible exact LeO.none _)
   | (with_reducible refine LeO.ite ?_ ?_)
   | (with_reducible refine LeO.bind ?_ (fun _ => ?_))
   | exact spec_FieldsPut.mono _ _
   | exact spec_l11Cut.mono _ _ _ _
   | exact spec_l11Fields.mono _ _ _
   | exact LeO.none _
   | refine LeO.ite ?_ ?_
   | refine LeO.bind ?_ (fun _ => ?_)
set_option maxHeartbeats 8000000 in
set_option maxRecDepth 100000 in
theorem spec_DrawFieldsGet.calls (k : Nat) (A0 : Option Addr) (c0 : Nat) (l0 : List Int) (r : ByteArray) (w : World) (hr0 : Kd.C (Kd.int .u8) w A0 l0.length l0) (hc0 : l0.length ≤ c0) (h : spec_DrawFieldsGet.f k l0 = some r) :
  Calls Tryd.prog 34 #[.slice A0 l0.length c0] w fun e w' => e = .returned (.string r) ∧ Below w.heap.size w w' := by
 have HR0 := Aside0.mk hr0
 have HC0 := Aside0.mk hc0
 clear hr0 hc0
 have HB := Aside0.mk (Below.refl w.heap.size w)
 have H : ((spec_l1Open.f l0).bind fun bt327 => ((spec_l11Fields.f k bt327.1 bt327.2).bind fun bt330 => ((spec_FieldsPut.f k bt330.1).bind fun t334 => ((spec_l11Cut.f k bt327.1 bt330.2 t334).bind fun bt335 => (some bt335.1))))) = some r := h
 clear h
 replace H := Option.bind_eq_some_iff.mp H
 obtain ⟨⟨t327, t328⟩, A20, H⟩ := H
 replace H : ((spec_l11Fields.f k t327 t328).bind fun bt330 => ((spec_FieldsPut.f k bt330.1).bind fun t334 => ((spec_l11Cut.f k t327 bt330.2 t334).bind fun bt335 => (some bt335.1)))) = some r := H
 have A2 := Aside0.mk A20
 clear A20
 replace H := Option.bind_eq_some_iff.mp H
 obtain ⟨⟨t330, t333⟩, A30, H⟩ := H
 replace H : ((spec_FieldsPut.f k t330).bind fun t334 => ((spec_l11Cut.f k t327 t333 t334).bind fun bt335 => (some bt335.1))) = some r := H
 have A3 := Aside0.mk A30
 clear A30
 replace H := Option.bind_eq_some_iff.mp H
 obtain ⟨t334, A40, H⟩ := H
 replace H : ((spec_l11Cut.f k t327 t333 t334).bind fun bt335 => (some bt335.1)) = some r := H
 have A4 := Aside0.mk A40
 clear A40
 replace H := Option.bind_eq_some_iff.mp H
 obtain ⟨⟨t335, t336⟩, A50, H⟩ := H
 replace H : (some t335) = some r := H
 have A5 := Aside0.mk A50
 clear A50
 obtain rfl := Option.some.inj H
 go_enter Tryd.func34, Tryd.ntmps34
 go_wp2_with (first | ((with_reducible refine gate_callee (f := 47) rfl ?_); refine goesL_ (some 5) rfl rfl Tryd.func47 u20_ rfl #[.slice A0 l0.length c0] rfl u1_ ?_; (with_reducible refine (spec_l1Open.calls _ _ l0 t327 t328 w _ ?side1 ?side2 ?side3 A2.out).mono ?_); (case side1 => repeat (first | (with_reducible first | exact HB.out | apply below_alloc | apply pw_below_drewN | apply below_drew1) | exact HB.out)); (case side2 => exact HR0.out); (case side3 => exact HC0.out); rintro e w6 ⟨g329, rfl, hi, hb, hb2⟩; refine ⟨_, rfl, ?_⟩; have n0_ := Aside0.mk (hb); have n1_ := Aside0.mk (hi); clear HB; have HB := n0_; have HI329 := n1_; clear n0_ n1_; (try clear hb); (try clear hb2); (try clear hk); (try clear hi)) | ((with_reducible refine gate_callee (f := 70) rfl ?_); refine goesL_ (some 8) rfl rfl Tryd.func70 u20_ rfl #[.pointer (some ⟨g329, 0, none⟩)] rfl u1_ ?_; (with_reducible refine (spec_l11Fields.calls k g329 t327 t328 t330 t333 w _ ?side1 ?side2 A3.out).mono ?_); (case side1 => repeat (first | (with_reducible first | exact HI329.out | apply IsS99.alloc | apply IsS99.drewN | apply IsS99.drew | apply IsS99.set_1) | exact HI329.out)); (case side2 => repeat (first | (with_reducible first | exact HB.out | apply below_alloc | apply pw_below_drewN | apply below_drew1 | refine below_set ?_ (IsS99.ge HI329.out)) | exact HB.out)); rintro e w7 ⟨v331, rfl, ho0, hi, hb, hk⟩; refine ⟨_, rfl, ?_⟩; have n0_ := Aside0.mk (Kd.Q_lower ho0 (below_size u57_)); have n1_ := Aside0.mk (hb); have n2_ := Aside0.mk (hi); clear HB; clear HI329; have HO332 := n0_; have HB := n1_; have HI329 := n2_; clear n0_ n1_ n2_; (try clear hb); (try clear hb2); (try clear hk); (try clear hi); (try clear ho0); obtain ⟨Ao8, co8, eo8, _⟩ := Kd.Q_slice HO332.out; subst eo8) | ((with_reducible refine gate_callee (f := 31) rfl ?_); refine goesL_ (some 9) rfl rfl Tryd.func31 u20_ rfl #[.slice Ao8 t330.length co8] rfl u1_ ?_; (with_reducible refine (spec_FieldsPut.calls k _ _ t330 t334 _ ?side1 ?side2 A4.out).mono ?_); (case side1 => repeat (first | exact (Kd.Q_reads' HO332.out).2.2 | (with_reducible refine Kd.C_alloc ?_ _) | (with_reducible refine Kd.C_drewN ?_ _) | (with_reducible refine Kd.C_drew ?_))); (case side2 => exact (Kd.Q_reads' HO332.out).2.1); rintro e w9 ⟨rfl, hb⟩; refine ⟨_, rfl, ?_⟩; have n0_ := Aside0.mk (Kd.Q_below (by (with_reducible repeat (first | apply Kd.Q_alloc | apply Kd.Q_drewN | apply Kd.Q_drew)); exact HO332.out) hb); have n1_ := Aside0.mk (IsS99.below (by repeat (first | (with_reducible first | exact HI329.out | apply IsS99.alloc | apply IsS99.drewN | apply IsS99.drew | apply IsS99.set_1) | exact HI329.out)) hb); have n2_ := Aside0.mk (below_step u57_ hb); clear HO332; clear HI329; clear HB; have HO332 := n0_; have HI329 := n1_; have HB := n2_; clear n0_ n1_ n2_; (try clear hb); (try clear hb2); (try clear hk); (try clear hi)) | ((with_reducible refine gate_callee (f := 51) rfl ?_); refine goesL_ (some 10) rfl rfl Tryd.func51 u20_ rfl #[.pointer (some ⟨g329, 0, none⟩), .string t334] rfl u1_ ?_; (with_reducible refine (spec_l11Cut.calls k g329 t327 t333 t334 t335 t336 w _ ?side1 ?side2 A5.out).mono ?_); (case side1 => repeat (first | (with_reducible first | exact HI329.out | apply IsS99.alloc | apply IsS99.drewN | apply IsS99.drew | apply IsS99.set_1) | exact HI329.out)); (case side2 => repeat (first | (with_reducible first | exact HB.out | apply below_alloc | apply pw_below_drewN | apply below_drew1 | refine below_set ?_ (IsS99.ge HI329.out)) | exact HB.out)); rintro e w10 ⟨rfl, hi, hb, hk⟩; refine ⟨_, rfl, ?_⟩; have n0_ := Aside0.mk (Kd.Q_mono (Kd.Q_keep (IsS99.apartQ (show IsS99 w _ g329 t327 t333 from by repeat (first | (with_reducible first | exact HI329.out | apply IsS99.alloc | apply IsS99.drewN | apply IsS99.drew | apply IsS99.set_1) | exact HI329.out)) (by (with_reducible repeat (first | apply Kd.Q_alloc | apply Kd.Q_drewN | apply Kd.Q_drew)); exact HO332.out) u31_) hk (fun _ h => h.2)) (fun _ h => h.1)); have n1_ := Aside0.mk (hb); have n2_ := Aside0.mk (hi); clear HO332; clear HB; clear HI329; have HO332 := n0_; have HB := n1_; have HI329 := n2_; clear n0_ n1_ n2_; (try clear hb); (try clear hb2); (try clear hk); (try clear hi)))
 go_ret
 exact ⟨u4_, u57_⟩

/-! ### laws_FnFields: function 7 -/
mutual
def laws_FnFields.j0 : Nat → List Int → List Int → Bool → Option (Bool)
 | 0, _, _, _ => none
 | k + 1, x0, x1, x21 => if x21 = true then (some true) else ((spec_DrawFieldsPut.f k x0).bind fun t337 => ((impl_FieldsPut.f k t337).bind fun t340 => ((impl_FieldsGet.f k t340).bind fun bt341 => ((spec_FieldsPut.f k t337).bind fun t345 => (if t340.toList = t345.toList then ((impl_FieldsOk.f k t337).bind fun t346 => ((spec_FieldsOk.f k t337).bind fun t347 => (if (t346 != t347) = true then (laws_FnFields.j1 k x1 true) else (if (bt341.2 != (t340.toList != ([] : List UInt8))) = true then (laws_FnFields.j1 k x1 true) else (if bt341.2 = true then ((laws_sdFields.f k bt341.1 t337).bind fun t348 => (laws_FnFields.j1 k x1 (!t348))) else (laws_FnFields.j1 k x1 false)))))) else (laws_FnFields.j1 k x1 true))))))
def laws_FnFields.j1 : Nat → List Int → Bool → Option (Bool)
 | 0, _, _ => none
 | k + 1, x1, x56 => if x56 = true then (some false) else ((spec_DrawFieldsGet.f k x1).bind fun t349 => ((impl_FieldsGet.f k t349).bind fun bt350 => ((spec_FieldsGet.f k t349).bind fun bt354 => (if (bt350.2 == bt354.2) = true then ((laws_sdFields.f k bt350.1 bt354.1).bind fun t358 => (if t358 = true then (if bt350.2 = true then ((impl_FieldsPut.f k bt350.1).bind fun t359 => (some (t359.toList == t349.toList))) else (some true)) else (some false))) else (some false)))))
end
def laws_FnFields.f (k : Nat) (l0 : List Int) (l1 : List Int) : Option (Bool) := if (l0.length : Int) > 1048576 then (laws_FnFields.j0 k l0 l1 true) else (laws_FnFields.j0 k l0 l1 (decide ((l1.length : Int) > 1048576)))
theorem laws_FnFields.mono_l : ∀ k, (∀ y0 y1 y2, LeO (laws_FnFields.j0 k y0 y1 y2) (laws_FnFields.j0 (k + 1) y0 y1 y2)) ∧ (∀ y0 y1, LeO (laws_FnFields.j1 k y0 y1) (laws_FnFields.j1 (k + 1) y0 y1))
 | 0 => ⟨fun _ _ _ r h => by simp [laws_FnFields.j0] at h, fun _ _ r h => by simp [laws_FnFields.j1] at h⟩
 | k + 1 => by
  obtain ⟨ih0, ih1⟩ := laws_FnFields.mono_l k
  refine ⟨?_, ?_⟩
  ·intro y0 y1 y2
   unfold laws_FnFields.j0
   repeat' first
   | (with_reducible exact ih0 _ _ _)
   | (with_reducible exact ih1 _ _)
   | (with_reducible exact impl_FieldsGet.mono _ _)
   | (with_reducible exact impl_FieldsOk.mono _ _)
   | (with_reducible exact impl_FieldsPut.mono _ _)
   | (with_reducible exact laws_sdFields.mono _ _ _)
   | (with_reducible exact spec_DrawFieldsGet.mono _ _)
   | (with_reducible exact spec_DrawFieldsPut.mono _ _)
   | (with_reducible exact spec_FieldsGet.mono _ _)
   | (with_reducible exact spec_FieldsOk.mono _ _)
   | (with_reducible exact spec_FieldsPut.mono _ _)
   | (with_reducible exact LeO.refl _)
   | (with_reducible exact LeO.none _)
   | (with_reducible refine LeO.ite ?_ ?_)
   | (with_reducible refine LeO.bind ?_ (fun _ => ?_))
   | exact ih0 _ _ _
   | exact ih1 _ _
   | exact impl_FieldsGet.mono _ _
   | exact impl_FieldsOk.mono _ _
   | exact impl_FieldsPut.mono _ _
   | exact laws_sdFields.mono _ _ _
   | exact spec_DrawFieldsGet.mono _ _
   | exact spec_DrawFieldsPut.mono _ _
   | exact spec_FieldsGet.mono _ _
   | exact spec_FieldsOk.mono _ _
   | exact spec_FieldsPut.mono _ _
   | exact LeO.none _
   | refine LeO.ite ?_ ?_
   | refine LeO.bind ?_ (fun _ => ?_)
  ·intro y0 y1
   unfold laws_FnFields.j1
   repeat' first
   | (with_reducible exact ih0 _ _ _)
   | (with_reducible exact ih1 _ _)
   | (with_reducible exact impl_FieldsGet.mono _ _)
   | (with_reducible exact impl_FieldsOk.mono _ _)
   | (with_reducible exact impl_FieldsPut.mono _ _)
   | (with_reducible exact laws_sdFields.mono _ _ _)
   | (with_reducible exact spec_DrawFieldsGet.mono _ _)
   | (with_reducible exact spec_DrawFieldsPut.mono _ _)
   | (with_reducible exact spec_FieldsGet.mono _ _)
   | (with_reducible exact spec_FieldsOk.mono _ _)
   | (with_reducible exact spec_FieldsPut.mono _ _)
   | (with_reducible exact LeO.refl _)
   | (with_reducible exact LeO.none _)
   | (with_reducible refine LeO.ite ?_ ?_)
   | (with_reducible refine LeO.bind ?_ (fun _ => ?_))
   | exact ih0 _ _ _
   | exact ih1 _ _
   | exact impl_FieldsGet.mono _ _
   | exact impl_FieldsOk.mono _ _
   | exact impl_FieldsPut.mono _ _
   | exact laws_sdFields.mono _ _ _
   | exact spec_DrawFieldsGet.mono _ _
   | exact spec_DrawFieldsPut.mono _ _
   | exact spec_FieldsGet.mono _ _
   | exact spec_FieldsOk.mono _ _
   | exact spec_FieldsPut.mono _ _
   | exact LeO.none _
   | refine LeO.ite ?_ ?_
   | refine LeO.bind ?_ (fun _ => ?_)
theorem laws_FnFields.mono : ∀ a0 a1 k, LeO (laws_FnFields.f k a0 a1) (laws_FnFields.f (k + 1) a0 a1) := by
 intro a0 a1 k
 obtain ⟨ih0, ih1⟩ := laws_FnFields.mono_l k
 unfold laws_FnFields.f
 repeat' first
   | (with_reducible exact ih0 _ _ _)
   | (with_reducible exact ih1 _ _)
   | (with_reducible exact impl_FieldsGet.mono _ _)
   | (with_reducible exact impl_FieldsOk.mono _ _)
   | (with_reducible exact impl_FieldsPut.mono _ _)
   | (with_reducible exact laws_sdFields.mono _ _ _)
   | (with_reducible exact spec_DrawFieldsGet.mono _ _)
   | (with_reducible exact spec_DrawFieldsPut.mono _ _)
   | (with_reducible exact spec_FieldsGet.mono _ _)
   | (with_reducible exact spec_FieldsOk.mono _ _)
   | (with_reducible exact spec_FieldsPut.mono _ _)
   | (with_reducible exact LeO.refl _)
   | (with_reducible exact LeO.none _)
   | (with_reducible refine LeO.ite ?_ ?_)
   | (with_reducible refine LeO.bind ?_ (fun _ => ?_))
   | exact ih0 _ _ _
   | exact ih1 _ _
   | exact impl_FieldsGet.mono _ _
   | exact impl_FieldsOk.mono _ _
   | exact impl_FieldsPut.mono _ _
   | exact laws_sdFields.mono _ _ _
   | exact spec_DrawFieldsGet.mono _ _
   | exact spec_DrawFieldsPut.mono _ _
   | exact spec_FieldsGet.mono _ _
   | exact spec_FieldsOk.mono _ _
   | exact spec_FieldsPut.mono _ _
   | exact LeO.none _
   | refine LeO.ite ?_ ?_
   | refine LeO.bind ?_ (fun _ => ?_)
set_option maxHeartbeats 8000000 in
set_option maxRecDepth 100000 in
theorem laws_FnFields.calls (k : Nat) (A0 : Option Addr) (c0 : Nat) (l0 : List Int) (A1 : Option Addr) (c1 : Nat) (l1 : List Int) (r : Bool) (w : World) (hG : StopsIn w) (hr0 : Kd.C (Kd.int .u8) w A0 l0.length l0) (hc0 : l0.length ≤ c0) (hr1 : Kd.C (Kd.int .u8) w A1 l1.length l1) (hc1 : l1.length ≤ c1) (h : laws_FnFields.f k l0 l1 = some r) :
  Calls Tryd.prog 7 #[.slice A0 l0.length c0, .slice A1 l1.length c1] w fun e w' => e = .returned (.bool r) ∧ Below w.heap.size w w' := by
 have HG_ := Aside0.mk hG
 clear hG
 have HR0 := Aside0.mk hr0
 have HC0 := Aside0.mk hc0
 clear hr0 hc0
 have HR1 := Aside0.mk hr1
 have HC1 := Aside0.mk hc1
 clear hr1 hc1
 have HB := Aside0.mk (Below.refl w.heap.size w)
 have H : (if (l0.length : Int) > 1048576 then (laws_FnFields.j0 k l0 l1 true) else (laws_FnFields.j0 k l0 l1 (decide ((l1.length : Int) > 1048576)))) = some r := h
 clear h
 have HC3 := Aside0.mk H
 clear H
 go_enter Tryd.func7, Tryd.ntmps7
 go_upto_region 1 with (fail)
 go_cut [21] (fun v21 wc => ∃ (kq : Nat) (x21_2 : Bool), v21 = .bool x21_2 ∧ Aside0 (laws_FnFields.j0 kq l0 l1 x21_2 = some r) ∧ Aside0 (kq ≤ k) ∧ Aside0 (Below w.heap.size w wc))
 case first =>
  have H := HC3.out
  clear HC3
  by_cases c4 : (l0.length : Int) > 1048576
  ·rw [if_pos c4] at H
   have c4b0 : decide (1048576 < (l0.length : Int)) = true := decide_eq_true c4
   have c4b1 : decide (1048576 < l0.length) = true := decide_eq_true u44_
   clear c4
   (first | rw [c4b0] | (simp only [i64_w, i32_w]; rw [c4b0]) | skip)
   have H' := Aside0.mk H
   clear H
   go_wp2
   go_meet
   case rel => exact ⟨_, (true), u10_, H', ⟨by first | omega | exact Nat.le_refl _⟩, ⟨u0_⟩⟩
  ·rw [if_neg c4] at H
   have c4b0 : decide (1048576 < (l0.length : Int)) = false := decide_eq_false c4
   have c4b1 : decide (1048576 < l0.length) = false := decide_eq_false u44_
   clear c4
   (first | rw [c4b0] | (simp only [i64_w, i32_w]; rw [c4b0]) | skip)
   have H' := Aside0.mk H
   clear H
   go_wp2
   go_meet
   case rel => exact ⟨_, (decide ((l1.length : Int) > 1048576)), u10_, H', ⟨by first | omega | exact Nat.le_refl _⟩, ⟨u0_⟩⟩
 case rest =>
  clear HC3
  try clear c1
  try clear p2
  try clear c4
  try clear c4b0
  try clear c4b1
  obtain ⟨kq, x21_2, rfl, HA, HJ2, HB⟩ := hcut
  cases kq with
  | zero => exact absurd HA.out (by simp [laws_FnFields.j0])
  | succ kj2 =>
   have H := HA.out
   clear HA
   simp only [laws_FnFields.j0] at H
   by_cases c5 : x21_2 = true
   ·subst c5
    have H1 : (some true) = some r := by rw [if_pos rfl] at H; exact H
    clear H
    have H := H1
    clear H1
    obtain rfl := Option.some.inj H
    go_wp2
    go_ret
    exact ⟨u4_, u0_⟩
   ·replace c5 := Bool.eq_false_iff.mpr c5
    subst c5
    have H1 : ((spec_DrawFieldsPut.f kj2 l0).bind fun t337 => ((impl_FieldsPut.f kj2 t337).bind fun t340 => ((impl_FieldsGet.f kj2 t340).bind fun bt341 => ((spec_FieldsPut.f kj2 t337).bind fun t345 => (if t340.toList = t345.toList then ((impl_FieldsOk.f kj2 t337).bind fun t346 => ((spec_FieldsOk.f kj2 t337).bind fun t347 => (if (t346 != t347) = true then (laws_FnFields.j1 kj2 l1 true) else (if (bt341.2 != (t340.toList != ([] : List UInt8))) = true then (laws_FnFields.j1 kj2 l1 true) else (if bt341.2 = true then ((laws_sdFields.f kj2 bt341.1 t337).bind fun t348 => (laws_FnFields.j1 kj2 l1 (!t348))) else (laws_FnFields.j1 kj2 l1 false)))))) else (laws_FnFields.j1 kj2 l1 true)))))) = some r := by rw [if_neg (show ¬ (false = true) by decide)] at H; exact H
    clear H
    have H := H1
    clear H1
    replace H := Option.bind_eq_some_iff.mp H
    obtain ⟨t337, A60, H⟩ := H
    replace H : ((impl_FieldsPut.f kj2 t337).bind fun t340 => ((impl_FieldsGet.f kj2 t340).bind fun bt341 => ((spec_FieldsPut.f kj2 t337).bind fun t345 => (if t340.toList = t345.toList then ((impl_FieldsOk.f kj2 t337).bind fun t346 => ((spec_FieldsOk.f kj2 t337).bind fun t347 => (if (t346 != t347) = true then (laws_FnFields.j1 kj2 l1 true) else (if (bt341.2 != (t340.toList != ([] : List UInt8))) = true then (laws_FnFields.j1 kj2 l1 true) else (if bt341.2 = true then ((laws_sdFields.f kj2 bt341.1 t337).bind fun t348 => (laws_FnFields.j1 kj2 l1 (!t348))) else (laws_FnFields.j1 kj2 l1 false)))))) else (laws_FnFields.j1 kj2 l1 true))))) = some r := H
    have A6 := Aside0.mk A60
    clear A60
    replace H := Option.bind_eq_some_iff.mp H
    obtain ⟨t340, A70, H⟩ := H
    replace H : ((impl_FieldsGet.f kj2 t340).bind fun bt341 => ((spec_FieldsPut.f kj2 t337).bind fun t345 => (if t340.toList = t345.toList then ((impl_FieldsOk.f kj2 t337).bind fun t346 => ((spec_FieldsOk.f kj2 t337).bind fun t347 => (if (t346 != t347) = true then (laws_FnFields.j1 kj2 l1 true) else (if (bt341.2 != (t340.toList != ([] : List UInt8))) = true then (laws_FnFields.j1 kj2 l1 true) else (if bt341.2 = true then ((laws_sdFields.f kj2 bt341.1 t337).bind fun t348 => (laws_FnFields.j1 kj2 l1 (!t348))) else (laws_FnFields.j1 kj2 l1 false)))))) else (laws_FnFields.j1 kj2 l1 true)))) = some r := H
    have A7 := Aside0.mk A70
    clear A70
    replace H := Option.bind_eq_some_iff.mp H
    obtain ⟨⟨t341, t342⟩, A80, H⟩ := H
    replace H : ((spec_FieldsPut.f kj2 t337).bind fun t345 => (if t340.toList = t345.toList then ((impl_FieldsOk.f kj2 t337).bind fun t346 => ((spec_FieldsOk.f kj2 t337).bind fun t347 => (if (t346 != t347) = true then (laws_FnFields.j1 kj2 l1 true) else (if (t342 != (t340.toList != ([] : List UInt8))) = true then (laws_FnFields.j1 kj2 l1 true) else (if t342 = true then ((laws_sdFields.f kj2 t341 t337).bind fun t348 => (laws_FnFields.j1 kj2 l1 (!t348))) else (laws_FnFields.j1 kj2 l1 false)))))) else (laws_FnFields.j1 kj2 l1 true))) = some r := H
    have A8 := Aside0.mk A80
    clear A80
    have HC9 := Aside0.mk H
    clear H
    go_upto_region 6 with (first | ((with_reducible refine gate_callee (f := 29) rfl ?_); refine goesL_ (some 23) rfl rfl Tryd.func29 u20_ rfl #[.slice A0 l0.length c0] rfl u1_ ?_; (with_reducible refine (spec_DrawFieldsPut.calls kj2 _ _ l0 t337 _ ?side1 ?side2 A6.out).mono ?_); (case side1 => repeat (first | exact (Kd.C_below HR0.out HB.out) | (with_reducible refine Kd.C_alloc ?_ _) | (with_reducible refine Kd.C_drewN ?_ _) | (with_reducible refine Kd.C_drew ?_))); (case side2 => exact HC0.out); rintro e w10 ⟨v338, rfl, ho0, hb⟩; refine ⟨_, rfl, ?_⟩; have n0_ := Aside0.mk (Kd.R_lower ho0 (below_size u0_)); have n1_ := Aside0.mk (below_step u0_ hb); clear HB; have HO339 := n0_; have HB := n1_; clear n0_ n1_; (try clear hb); (try clear hb2); (try clear hk); (try clear hi); (try clear ho0); obtain ⟨Ao11, co11, eo11⟩ := Kd.R_slice HO339.out; subst eo11) | ((with_reducible refine gate_callee (f := 30) rfl ?_); refine goesL_ (some 25) rfl rfl Tryd.func30 u20_ rfl #[.slice Ao11 t337.length co11] rfl u1_ ?_; (with_reducible refine (impl_FieldsPut.calls kj2 _ _ t337 t340 _ ?side1 ?side2 ?side3 A7.out).mono ?_); (case side1 => exact StopsIn.below HG_.out u0_); (case side2 => repeat (first | exact (Kd.R_reads' HO339.out).2.2 | (with_reducible refine Kd.C_alloc ?_ _) | (with_reducible refine Kd.C_drewN ?_ _) | (with_reducible refine Kd.C_drew ?_))); (case side3 => exact (Kd.R_reads' HO339.out).2.1); rintro e w12 ⟨rfl, hb⟩; refine ⟨_, rfl, ?_⟩; have n0_ := Aside0.mk (Kd.R_below u19_ hb); have n1_ := Aside0.mk (below_step u0_ hb); clear HO339; clear HB; have HO339 := n0_; have HB := n1_; clear n0_ n1_; (try clear hb); (try clear hb2); (try clear hk); (try clear hi)) | ((with_reducible refine gate_callee (f := 21) rfl ?_); refine goesL_ (some 28) rfl rfl Tryd.func21 u20_ rfl #[.string t340] rfl u1_ ?_; (with_reducible refine (impl_FieldsGet.calls kj2 t340 t341 t342 _ ?side1 A8.out).mono ?_); (case side1 => exact StopsIn.below HG_.out u0_); rintro e w13 ⟨v343, rfl, ho0, hb⟩; refine ⟨_, rfl, ?_⟩; have n0_ := Aside0.mk (Kd.R_elder' u19_ (Kd.R_base ho0) hb); have n1_ := Aside0.mk (Kd.R_lower (Kd.R_new' ho0 (Kd.R_lt u19_)) (below_size u0_)); have n2_ := Aside0.mk (below_step u0_ hb); clear HO339; clear HB; have HO339 := n0_; have HO344 := n1_; have HB := n2_; clear n0_ n1_ n2_; (try clear hb); (try clear hb2); (try clear hk); (try clear hi); (try clear ho0)))
    (try simp only [Act.put, List.setIfInBounds_toArray, List.set_cons_zero, List.set_cons_succ])
    go_cut [56] (fun v56 wc => ∃ (kq : Nat) (x56_8 : Bool), v56 = .bool x56_8 ∧ Aside0 (laws_FnFields.j1 kq l1 x56_8 = some r) ∧ Aside0 (kq ≤ kj2) ∧ Aside0 (Below w.heap.size w wc))
    case first =>
     have H := HC9.out
     clear HC9
     replace H := Option.bind_eq_some_iff.mp H
     obtain ⟨t345, A140, H⟩ := H
     replace H : (if t340.toList = t345.toList then ((impl_FieldsOk.f kj2 t337).bind fun t346 => ((spec_FieldsOk.f kj2 t337).bind fun t347 => (if (t346 != t347) = true then (laws_FnFields.j1 kj2 l1 true) else (if (t342 != (t340.toList != ([] : List UInt8))) = true then (laws_FnFields.j1 kj2 l1 true) else (if t342 = true then ((laws_sdFields.f kj2 t341 t337).bind fun t348 => (laws_FnFields.j1 kj2 l1 (!t348))) else (laws_FnFields.j1 kj2 l1 false)))))) else (laws_FnFields.j1 kj2 l1 true)) = some r := H
     have A14 := Aside0.mk A140
     clear A140
     by_cases c15 : t340.toList = t345.toList
     ·rw [if_pos c15] at H
      have c15b0 : (t340.toList == t345.toList) = true := beq_iff_eq.mpr c15
      have c15b1 : (t340.toList != t345.toList) = false := bne_eq_false_iff_eq.mpr c15
      clear c15
      (first | rw [c15b0] | (simp only [i64_w, i32_w]; rw [c15b0]) | skip)
      replace H := Option.bind_eq_some_iff.mp H
      obtain ⟨t346, A160, H⟩ := H
      replace H : ((spec_FieldsOk.f kj2 t337).bind fun t347 => (if (t346 != t347) = true then (laws_FnFields.j1 kj2 l1 true) else (if (t342 != (t340.toList != ([] : List UInt8))) = true then (laws_FnFields.j1 kj2 l1 true) else (if t342 = true then ((laws_sdFields.f kj2 t341 t337).bind fun t348 => (laws_FnFields.j1 kj2 l1 (!t348))) else (laws_FnFields.j1 kj2 l1 false))))) = some r := H
      have A16 := Aside0.mk A160
      clear A160
      replace H := Option.bind_eq_some_iff.mp H
      obtain ⟨t347, A170, H⟩ := H
      replace H : (if (t346 != t347) = true then (laws_FnFields.j1 kj2 l1 true) else (if (t342 != (t340.toList != ([] : List UInt8))) = true then (laws_FnFields.j1 kj2 l1 true) else (if t342 = true then ((laws_sdFields.f kj2 t341 t337).bind fun t348 => (laws_FnFields.j1 kj2 l1 (!t348))) else (laws_FnFields.j1 kj2 l1 false)))) = some r := H
      have A17 := Aside0.mk A170
      clear A170
      by_cases c18 : (t346 != t347) = true
      ·rw [if_pos c18] at H
       have c18b0 : (t346 != t347) = true := c18
       (try (have c18b1 : decide (t346 = t347) = false := by simpa using c18))
       (try (have c18b2 : (t346 == t347) = false := by simpa using c18))
       (try (have c18b3 : ¬ (t346 = t347) := by simpa using c18))
       clear c18
       have H' := Aside0.mk H
       clear H
       go_wp2_with (first | ((with_reducible refine gate_callee (f := 31) rfl ?_); refine goesL_ (some 33) rfl rfl Tryd.func31 u20_ rfl #[.slice Ao11 t337.length co11] rfl u1_ ?_; (with_reducible refine (spec_FieldsPut.calls kj2 _ _ t337 t345 _ ?side1 ?side2 A14.out).mono ?_); (case side1 => repeat (first | exact (Kd.R_reads' HO339.out).2.2 | (with_reducible refine Kd.C_alloc ?_ _) | (with_reducible refine Kd.C_drewN ?_ _) | (with_reducible refine Kd.C_drew ?_))); (case side2 => exact (Kd.R_reads' HO339.out).2.1); rintro e w19 ⟨rfl, hb⟩; refine ⟨_, rfl, ?_⟩; have n0_ := Aside0.mk (Kd.R_below u19_ hb); have n1_ := Aside0.mk (Kd.R_below u24_ hb); have n2_ := Aside0.mk (below_step u0_ hb); clear HO339; clear HO344; clear HB; have HO339 := n0_; have HO344 := n1_; have HB := n2_; clear n0_ n1_ n2_; (try clear hb); (try clear hb2); (try clear hk); (try clear hi)) | (go_at_call 28; (with_reducible refine (impl_FieldsOk.calls kj2 _ _ t337 t346 _ ?side1 ?side2 A16.out).mono ?_); (case side1 => repeat (first | exact (Kd.R_reads' HO339.out).2.2 | (with_reducible refine Kd.C_alloc ?_ _) | (with_reducible refine Kd.C_drewN ?_ _) | (with_reducible refine Kd.C_drew ?_))); (case side2 => exact (Kd.R_reads' HO339.out).2.1); rintro e w20 ⟨rfl, hb⟩; have n0_ := Aside0.mk (Kd.R_below u19_ hb); have n1_ := Aside0.mk (Kd.R_below u24_ hb); have n2_ := Aside0.mk (below_step u0_ hb); clear HO339; clear HO344; clear HB; have HO339 := n0_; have HO344 := n1_; have HB := n2_; clear n0_ n1_ n2_; (try clear hb); (try clear hb2); (try clear hk); (try clear hi)) | (go_at_call 32; (with_reducible refine (spec_FieldsOk.calls kj2 _ _ t337 t347 _ ?side1 ?side2 A17.out).mono ?_); (case side1 => repeat (first | exact (Kd.R_reads' HO339.out).2.2 | (with_reducible refine Kd.C_alloc ?_ _) | (with_reducible refine Kd.C_drewN ?_ _) | (with_reducible refine Kd.C_drew ?_))); (case side2 => exact (Kd.R_reads' HO339.out).2.1); rintro e w21 ⟨rfl, hb⟩; have n0_ := Aside0.mk (Kd.R_below u19_ hb); have n1_ := Aside0.mk (Kd.R_below u24_ hb); have n2_ := Aside0.mk (below_step u0_ hb); clear HO339; clear HO344; clear HB; have HO339 := n0_; have HO344 := n1_; have HB := n2_; clear n0_ n1_ n2_; (try clear hb); (try clear hb2); (try clear hk); (try clear hi)))
       go_meet
       case rel => exact ⟨_, (true), u10_, H', ⟨u63_⟩, ⟨u0_⟩⟩
      ·rw [if_neg c18] at H
       have c18b0 : (t346 != t347) = false := by simpa using c18
       (try (have c18b1 : decide (t346 = t347) = true := by simpa using c18))
       (try (have c18b2 : (t346 == t347) = true := by simpa using c18))
       clear c18
       by_cases c22 : (t342 != (t340.toList != ([] : List UInt8))) = true
       ·rw [if_pos c22] at H
        have c22b0 : (t342 != (t340.toList != ([] : List UInt8))) = true := c22
        (try (have c22e0 : (t342 != (!t340.toList.isEmpty)) = true := by have h_ := c22; rw [show (t340.toList != ([] : List UInt8)) = (!t340.toList.isEmpty) from by cases t340.toList <;> rfl] at h_; simpa using h_))
        (try (have c22e1 : (t342 == (!t340.toList.isEmpty)) = false := by have h_ := c22; rw [show (t340.toList != ([] : List UInt8)) = (!t340.toList.isEmpty) from by cases t340.toList <;> rfl] at h_; simpa using h_))
        (try (have c22e2 : decide (t342 = (!t340.toList.isEmpty)) = false := by have h_ := c22; rw [show (t340.toList != ([] : List UInt8)) = (!t340.toList.isEmpty) from by cases t340.toList <;> rfl] at h_; simpa using h_))
        (try (have c22b1 : decide (t342 = (t340.toList != ([] : List UInt8))) = false := by simpa using c22))
        (try (have c22b2 : (t342 == (t340.toList != ([] : List UInt8))) = false := by simpa using c22))
        (try (have c22b3 : ¬ (t342 = (t340.toList != ([] : List UInt8))) := by simpa using c22))
        clear c22
        have H' := Aside0.mk H
        clear H
        go_wp2_with (first | ((with_reducible refine gate_callee (f := 31) rfl ?_); refine goesL_ (some 33) rfl rfl Tryd.func31 u20_ rfl #[.slice Ao11 t337.length co11] rfl u1_ ?_; (with_reducible refine (spec_FieldsPut.calls kj2 _ _ t337 t345 _ ?side1 ?side2 A14.out).mono ?_); (case side1 => repeat (first | exact (Kd.R_reads' HO339.out).2.2 | (with_reducible refine Kd.C_alloc ?_ _) | (with_reducible refine Kd.C_drewN ?_ _) | (with_reducible refine Kd.C_drew ?_))); (case side2 => exact (Kd.R_reads' HO339.out).2.1); rintro e w23 ⟨rfl, hb⟩; refine ⟨_, rfl, ?_⟩; have n0_ := Aside0.mk (Kd.R_below u19_ hb); have n1_ := Aside0.mk (Kd.R_below u24_ hb); have n2_ := Aside0.mk (below_step u0_ hb); clear HO339; clear HO344; clear HB; have HO339 := n0_; have HO344 := n1_; have HB := n2_; clear n0_ n1_ n2_; (try clear hb); (try clear hb2); (try clear hk); (try clear hi)) | (go_at_call 28; (with_reducible refine (impl_FieldsOk.calls kj2 _ _ t337 t346 _ ?side1 ?side2 A16.out).mono ?_); (case side1 => repeat (first | exact (Kd.R_reads' HO339.out).2.2 | (with_reducible refine Kd.C_alloc ?_ _) | (with_reducible refine Kd.C_drewN ?_ _) | (with_reducible refine Kd.C_drew ?_))); (case side2 => exact (Kd.R_reads' HO339.out).2.1); rintro e w24 ⟨rfl, hb⟩; have n0_ := Aside0.mk (Kd.R_below u19_ hb); have n1_ := Aside0.mk (Kd.R_below u24_ hb); have n2_ := Aside0.mk (below_step u0_ hb); clear HO339; clear HO344; clear HB; have HO339 := n0_; have HO344 := n1_; have HB := n2_; clear n0_ n1_ n2_; (try clear hb); (try clear hb2); (try clear hk); (try clear hi)) | (go_at_call 32; (with_reducible refine (spec_FieldsOk.calls kj2 _ _ t337 t347 _ ?side1 ?side2 A17.out).mono ?_); (case side1 => repeat (first | exact (Kd.R_reads' HO339.out).2.2 | (with_reducible refine Kd.C_alloc ?_ _) | (with_reducible refine Kd.C_drewN ?_ _) | (with_reducible refine Kd.C_drew ?_))); (case side2 => exact (Kd.R_reads' HO339.out).2.1); rintro e w25 ⟨rfl, hb⟩; have n0_ := Aside0.mk (Kd.R_below u19_ hb); have n1_ := Aside0.mk (Kd.R_below u24_ hb); have n2_ := Aside0.mk (below_step u0_ hb); clear HO339; clear HO344; clear HB; have HO339 := n0_; have HO344 := n1_; have HB := n2_; clear n0_ n1_ n2_; (try clear hb); (try clear hb2); (try clear hk); (try clear hi)))
        go_meet
        case rel => exact ⟨_, (true), u10_, H', ⟨u63_⟩, ⟨u0_⟩⟩
       ·rw [if_neg c22] at H
        have c22b0 : (t342 != (t340.toList != ([] : List UInt8))) = false := by simpa using c22
        (try (have c22e0 : (t342 != (!t340.toList.isEmpty)) = false := by have h_ := c22; rw [show (t340.toList != ([] : List UInt8)) = (!t340.toList.isEmpty) from by cases t340.toList <;> rfl] at h_; simpa using h_))
        (try (have c22e1 : (t342 == (!t340.toList.isEmpty)) = true := by have h_ := c22; rw [show (t340.toList != ([] : List UInt8)) = (!t340.toList.isEmpty) from by cases t340.toList <;> rfl] at h_; simpa using h_))
        (try (have c22e2 : decide (t342 = (!t340.toList.isEmpty)) = true := by have h_ := c22; rw [show (t340.toList != ([] : List UInt8)) = (!t340.toList.isEmpty) from by cases t340.toList <;> rfl] at h_; simpa using h_))
        (try (have c22b1 : decide (t342 = (t340.toList != ([] : List UInt8))) = true := by simpa using c22))
        (try (have c22b2 : (t342 == (t340.toList != ([] : List UInt8))) = true := by simpa using c22))
        clear c22
        by_cases c26 : t342 = true
        ·subst c26
         (try (have c22f_ : t340.toList.isEmpty = false := by simpa using c22e0))
         (try (have c22f_ : t340.toList.isEmpty = true := by simpa using c22e0))
         have H1 : ((laws_sdFields.f kj2 t341 t337).bind fun t348 => (laws_FnFields.j1 kj2 l1 (!t348))) = some r := by rw [if_pos rfl] at H; exact H
         clear H
         have H := H1
         clear H1
         replace H := Option.bind_eq_some_iff.mp H
         obtain ⟨t348, A270, H⟩ := H
         replace H : (laws_FnFields.j1 kj2 l1 (!t348)) = some r := H
         have A27 := Aside0.mk A270
         clear A270
         have H' := Aside0.mk H
         clear H
         go_wp2_with (first | ((with_reducible refine gate_callee (f := 31) rfl ?_); refine goesL_ (some 33) rfl rfl Tryd.func31 u20_ rfl #[.slice Ao11 t337.length co11] rfl u1_ ?_; (with_reducible refine (spec_FieldsPut.calls kj2 _ _ t337 t345 _ ?side1 ?side2 A14.out).mono ?_); (case side1 => repeat (first | exact (Kd.R_reads' HO339.out).2.2 | (with_reducible refine Kd.C_alloc ?_ _) | (with_reducible refine Kd.C_drewN ?_ _) | (with_reducible refine Kd.C_drew ?_))); (case side2 => exact (Kd.R_reads' HO339.out).2.1); rintro e w28 ⟨rfl, hb⟩; refine ⟨_, rfl, ?_⟩; have n0_ := Aside0.mk (Kd.R_below u19_ hb); have n1_ := Aside0.mk (Kd.R_below u24_ hb); have n2_ := Aside0.mk (below_step u0_ hb); clear HO339; clear HO344; clear HB; have HO339 := n0_; have HO344 := n1_; have HB := n2_; clear n0_ n1_ n2_; (try clear hb); (try clear hb2); (try clear hk); (try clear hi)) | (go_at_call 28; (with_reducible refine (impl_FieldsOk.calls kj2 _ _ t337 t346 _ ?side1 ?side2 A16.out).mono ?_); (case side1 => repeat (first | exact (Kd.R_reads' HO339.out).2.2 | (with_reducible refine Kd.C_alloc ?_ _) | (with_reducible refine Kd.C_drewN ?_ _) | (with_reducible refine Kd.C_drew ?_))); (case side2 => exact (Kd.R_reads' HO339.out).2.1); rintro e w29 ⟨rfl, hb⟩; have n0_ := Aside0.mk (Kd.R_below u19_ hb); have n1_ := Aside0.mk (Kd.R_below u24_ hb); have n2_ := Aside0.mk (below_step u0_ hb); clear HO339; clear HO344; clear HB; have HO339 := n0_; have HO344 := n1_; have HB := n2_; clear n0_ n1_ n2_; (try clear hb); (try clear hb2); (try clear hk); (try clear hi)) | (go_at_call 32; (with_reducible refine (spec_FieldsOk.calls kj2 _ _ t337 t347 _ ?side1 ?side2 A17.out).mono ?_); (case side1 => repeat (first | exact (Kd.R_reads' HO339.out).2.2 | (with_reducible refine Kd.C_alloc ?_ _) | (with_reducible refine Kd.C_drewN ?_ _) | (with_reducible refine Kd.C_drew ?_))); (case side2 => exact (Kd.R_reads' HO339.out).2.1); rintro e w30 ⟨rfl, hb⟩; have n0_ := Aside0.mk (Kd.R_below u19_ hb); have n1_ := Aside0.mk (Kd.R_below u24_ hb); have n2_ := Aside0.mk (below_step u0_ hb); clear HO339; clear HO344; clear HB; have HO339 := n0_; have HO344 := n1_; have HB := n2_; clear n0_ n1_ n2_; (try clear hb); (try clear hb2); (try clear hk); (try clear hi); obtain ⟨Ao31, co31, eo31⟩ := Kd.R_slice HO344.out; subst eo31) | (go_at_call 33; (with_reducible refine (laws_sdFields.calls kj2 _ _ t341 _ _ t337 t348 _ ?side1 ?side2 ?side3 ?side4 A27.out).mono ?_); (case side1 => repeat (first | exact (Kd.R_reads' HO344.out).2.2 | (with_reducible refine Kd.C_alloc ?_ _) | (with_reducible refine Kd.C_drewN ?_ _) | (with_reducible refine Kd.C_drew ?_))); (case side2 => exact (Kd.R_reads' HO344.out).2.1); (case side3 => repeat (first | exact (Kd.R_reads' HO339.out).2.2 | (with_reducible refine Kd.C_alloc ?_ _) | (with_reducible refine Kd.C_drewN ?_ _) | (with_reducible refine Kd.C_drew ?_))); (case side4 => exact (Kd.R_reads' HO339.out).2.1); rintro e w' ⟨rfl, ⟨nd, rfl⟩⟩))
         go_meet
         case rel => exact ⟨_, (!t348), u10_, H', ⟨u63_⟩, ⟨u0_⟩⟩
        ·replace c26 := Bool.eq_false_iff.mpr c26
         subst c26
         (try (have c22f_ : t340.toList.isEmpty = false := by simpa using c22e0))
         (try (have c22f_ : t340.toList.isEmpty = true := by simpa using c22e0))
         have H1 : (laws_FnFields.j1 kj2 l1 false) = some r := by rw [if_neg (show ¬ (false = true) by decide)] at H; exact H
         clear H
         have H := H1
         clear H1
         have H' := Aside0.mk H
         clear H
         go_wp2_with (first | ((with_reducible refine gate_callee (f := 31) rfl ?_); refine goesL_ (some 33) rfl rfl Tryd.func31 u20_ rfl #[.slice Ao11 t337.length co11] rfl u1_ ?_; (with_reducible refine (spec_FieldsPut.calls kj2 _ _ t337 t345 _ ?side1 ?side2 A14.out).mono ?_); (case side1 => repeat (first | exact (Kd.R_reads' HO339.out).2.2 | (with_reducible refine Kd.C_alloc ?_ _) | (with_reducible refine Kd.C_drewN ?_ _) | (with_reducible refine Kd.C_drew ?_))); (case side2 => exact (Kd.R_reads' HO339.out).2.1); rintro e w32 ⟨rfl, hb⟩; refine ⟨_, rfl, ?_⟩; have n0_ := Aside0.mk (Kd.R_below u19_ hb); have n1_ := Aside0.mk (Kd.R_below u24_ hb); have n2_ := Aside0.mk (below_step u0_ hb); clear HO339; clear HO344; clear HB; have HO339 := n0_; have HO344 := n1_; have HB := n2_; clear n0_ n1_ n2_; (try clear hb); (try clear hb2); (try clear hk); (try clear hi)) | (go_at_call 28; (with_reducible refine (impl_FieldsOk.calls kj2 _ _ t337 t346 _ ?side1 ?side2 A16.out).mono ?_); (case side1 => repeat (first | exact (Kd.R_reads' HO339.out).2.2 | (with_reducible refine Kd.C_alloc ?_ _) | (with_reducible refine Kd.C_drewN ?_ _) | (with_reducible refine Kd.C_drew ?_))); (case side2 => exact (Kd.R_reads' HO339.out).2.1); rintro e w33 ⟨rfl, hb⟩; have n0_ := Aside0.mk (Kd.R_below u19_ hb); have n1_ := Aside0.mk (Kd.R_below u24_ hb); have n2_ := Aside0.mk (below_step u0_ hb); clear HO339; clear HO344; clear HB; have HO339 := n0_; have HO344 := n1_; have HB := n2_; clear n0_ n1_ n2_; (try clear hb); (try clear hb2); (try clear hk); (try clear hi)) | (go_at_call 32; (with_reducible refine (spec_FieldsOk.calls kj2 _ _ t337 t347 _ ?side1 ?side2 A17.out).mono ?_); (case side1 => repeat (first | exact (Kd.R_reads' HO339.out).2.2 | (with_reducible refine Kd.C_alloc ?_ _) | (with_reducible refine Kd.C_drewN ?_ _) | (with_reducible refine Kd.C_drew ?_))); (case side2 => exact (Kd.R_reads' HO339.out).2.1); rintro e w34 ⟨rfl, hb⟩; have n0_ := Aside0.mk (Kd.R_below u19_ hb); have n1_ := Aside0.mk (Kd.R_below u24_ hb); have n2_ := Aside0.mk (below_step u0_ hb); clear HO339; clear HO344; clear HB; have HO339 := n0_; have HO344 := n1_; have HB := n2_; clear n0_ n1_ n2_; (try clear hb); (try clear hb2); (try clear hk); (try clear hi)))
         go_meet
         case rel => exact ⟨_, (false), u10_, H', ⟨u63_⟩, ⟨u0_⟩⟩
     ·rw [if_neg c15] at H
      have c15b0 : (t340.toList == t345.toList) = false := beq_eq_false_iff_ne.mpr c15
      have c15b1 : (t340.toList != t345.toList) = true := bne_iff_ne.mpr c15
      (first | rw [c15b0] | (simp only [i64_w, i32_w]; rw [c15b0]) | skip)
      have H' := Aside0.mk H
      clear H
      go_wp2_with (first | ((with_reducible refine gate_callee (f := 31) rfl ?_); refine goesL_ (some 33) rfl rfl Tryd.func31 u20_ rfl #[.slice Ao11 t337.length co11] rfl u1_ ?_; (with_reducible refine (spec_FieldsPut.calls kj2 _ _ t337 t345 _ ?side1 ?side2 A14.out).mono ?_); (case side1 => repeat (first | exact (Kd.R_reads' HO339.out).2.2 | (with_reducible refine Kd.C_alloc ?_ _) | (with_reducible refine Kd.C_drewN ?_ _) | (with_reducible refine Kd.C_drew ?_))); (case side2 => exact (Kd.R_reads' HO339.out).2.1); rintro e w35 ⟨rfl, hb⟩; refine ⟨_, rfl, ?_⟩; have n0_ := Aside0.mk (Kd.R_below u19_ hb); have n1_ := Aside0.mk (Kd.R_below u24_ hb); have n2_ := Aside0.mk (below_step u0_ hb); clear HO339; clear HO344; clear HB; have HO339 := n0_; have HO344 := n1_; have HB := n2_; clear n0_ n1_ n2_; (try clear hb); (try clear hb2); (try clear hk); (try clear hi)))
      go_meet
      case rel => exact ⟨_, (true), u10_, H', ⟨u63_⟩, ⟨u0_⟩⟩
    case rest =>
     clear HC9
     try clear c1
     try clear c2
     try clear p2
     try clear c3
     try clear c4
     try clear c4b0
     try clear c4b1
     try clear c5
     try clear c7
     try clear c15
     try clear c15b0
     try clear c15b1
     try clear c18
     try clear c18b0
     try clear c18b1
     try clear c18b2
     try clear c21
     try clear c22
     try clear c22b0
     try clear c22b1
     try clear c22b2
     try clear c26
     try clear c29
     try clear c30
     try clear c31
     try clear p2
     obtain ⟨kq, x56_8, rfl, HA, HJ8, HB⟩ := hcut
     cases kq with
     | zero => exact absurd HA.out (by simp [laws_FnFields.j1])
     | succ kj8 =>
      have H := HA.out
      clear HA
      simp only [laws_FnFields.j1] at H
      by_cases c36 : x56_8 = true
      ·subst c36
       have H1 : (some false) = some r := by rw [if_pos rfl] at H; exact H
       clear H
       have H := H1
       clear H1
       obtain rfl := Option.some.inj H
       go_wp2
       go_ret
       exact ⟨u4_, u0_⟩
      ·replace c36 := Bool.eq_false_iff.mpr c36
       subst c36
       have H1 : ((spec_DrawFieldsGet.f kj8 l1).bind fun t349 => ((impl_FieldsGet.f kj8 t349).bind fun bt350 => ((spec_FieldsGet.f kj8 t349).bind fun bt354 => (if (bt350.2 == bt354.2) = true then ((laws_sdFields.f kj8 bt350.1 bt354.1).bind fun t358 => (if t358 = true then (if bt350.2 = true then ((impl_FieldsPut.f kj8 bt350.1).bind fun t359 => (some (t359.toList == t349.toList))) else (some true)) else (some false))) else (some false))))) = some r := by rw [if_neg (show ¬ (false = true) by decide)] at H; exact H
       clear H
       have H := H1
       clear H1
       replace H := Option.bind_eq_some_iff.mp H
       obtain ⟨t349, A370, H⟩ := H
       replace H : ((impl_FieldsGet.f kj8 t349).bind fun bt350 => ((spec_FieldsGet.f kj8 t349).bind fun bt354 => (if (bt350.2 == bt354.2) = true then ((laws_sdFields.f kj8 bt350.1 bt354.1).bind fun t358 => (if t358 = true then (if bt350.2 = true then ((impl_FieldsPut.f kj8 bt350.1).bind fun t359 => (some (t359.toList == t349.toList))) else (some true)) else (some false))) else (some false)))) = some r := H
       have A37 := Aside0.mk A370
       clear A370
       replace H := Option.bind_eq_some_iff.mp H
       obtain ⟨⟨t350, t351⟩, A380, H⟩ := H
       replace H : ((spec_FieldsGet.f kj8 t349).bind fun bt354 => (if (t351 == bt354.2) = true then ((laws_sdFields.f kj8 t350 bt354.1).bind fun t358 => (if t358 = true then (if t351 = true then ((impl_FieldsPut.f kj8 t350).bind fun t359 => (some (t359.toList == t349.toList))) else (some true)) else (some false))) else (some false))) = some r := H
       have A38 := Aside0.mk A380
       clear A380
       replace H := Option.bind_eq_some_iff.mp H
       obtain ⟨⟨t354, t355⟩, A390, H⟩ := H
       replace H : (if (t351 == t355) = true then ((laws_sdFields.f kj8 t350 t354).bind fun t358 => (if t358 = true then (if t351 = true then ((impl_FieldsPut.f kj8 t350).bind fun t359 => (some (t359.toList == t349.toList))) else (some true)) else (some false))) else (some false)) = some r := H
       have A39 := Aside0.mk A390
       clear A390
       by_cases c40 : (t351 == t355) = true
       ·rw [if_pos c40] at H
        have c40b0 : (t351 == t355) = true := c40
        (try (have c40b1 : decide (t351 = t355) = true := by simpa using c40))
        (try (have c40b2 : (t351 == t355) = true := by simpa using c40))
        clear c40
        replace H := Option.bind_eq_some_iff.mp H
        obtain ⟨t358, A410, H⟩ := H
        replace H : (if t358 = true then (if t351 = true then ((impl_FieldsPut.f kj8 t350).bind fun t359 => (some (t359.toList == t349.toList))) else (some true)) else (some false)) = some r := H
        have A41 := Aside0.mk A410
        clear A410
        by_cases c42 : t358 = true
        ·subst c42
         have H1 : (if t351 = true then ((impl_FieldsPut.f kj8 t350).bind fun t359 => (some (t359.toList == t349.toList))) else (some true)) = some r := by rw [if_pos rfl] at H; exact H
         clear H
         have H := H1
         clear H1
         by_cases c43 : t351 = true
         ·subst c43
          have H1 : ((impl_FieldsPut.f kj8 t350).bind fun t359 => (some (t359.toList == t349.toList))) = some r := by rw [if_pos rfl] at H; exact H
          clear H
          have H := H1
          clear H1
          replace H := Option.bind_eq_some_iff.mp H
          obtain ⟨t359, A440, H⟩ := H
          replace H : (some (t359.toList == t349.toList)) = some r := H
          have A44 := Aside0.mk A440
          clear A440
          obtain rfl := Option.some.inj H
          go_wp2_with (first | ((with_reducible refine gate_callee (f := 34) rfl ?_); refine goesL_ (some 58) rfl rfl Tryd.func34 u20_ rfl #[.slice A1 l1.length c1] rfl u1_ ?_; (with_reducible refine (spec_DrawFieldsGet.calls kj8 _ _ l1 t349 _ ?side1 ?side2 A37.out).mono ?_); (case side1 => repeat (first | exact (Kd.C_below HR1.out HB.out) | (with_reducible refine Kd.C_alloc ?_ _) | (with_reducible refine Kd.C_drewN ?_ _) | (with_reducible refine Kd.C_drew ?_))); (case side2 => exact HC1.out); rintro e w45 ⟨rfl, hb⟩; refine ⟨_, rfl, ?_⟩; have n0_ := Aside0.mk (below_step u0_ hb); clear HB; have HB := n0_; clear n0_; (try clear hb); (try clear hb2); (try clear hk); (try clear hi)) | ((with_reducible refine gate_callee (f := 21) rfl ?_); refine goesL_ (some 61) rfl rfl Tryd.func21 u20_ rfl #[.string t349] rfl u1_ ?_; (with_reducible refine (impl_FieldsGet.calls kj8 t349 t350 true _ ?side1 A38.out).mono ?_); (case side1 => exact StopsIn.below HG_.out u0_); rintro e w46 ⟨v352, rfl, ho0, hb⟩; refine ⟨_, rfl, ?_⟩; have n0_ := Aside0.mk (Kd.R_lower ho0 (below_size u0_)); have n1_ := Aside0.mk (below_step u0_ hb); clear HB; have HO353 := n0_; have HB := n1_; clear n0_ n1_; (try clear hb); (try clear hb2); (try clear hk); (try clear hi); (try clear ho0)) | ((with_reducible refine gate_callee (f := 20) rfl ?_); refine goesL_ (some 66) rfl rfl Tryd.func20 u20_ rfl #[.string t349] rfl u1_ ?_; (with_reducible refine (spec_FieldsGet.calls kj8 t349 t354 t355 _ A39.out).mono ?_); rintro e w47 ⟨v356, rfl, ho0, hb⟩; refine ⟨_, rfl, ?_⟩; have n0_ := Aside0.mk (Kd.R_elder' u30_ (Kd.R_base ho0) hb); have n1_ := Aside0.mk (Kd.R_lower (Kd.R_new' ho0 (Kd.R_lt u30_)) (below_size u0_)); have n2_ := Aside0.mk (below_step u0_ hb); clear HO353; clear HB; have HO353 := n0_; have HO357 := n1_; have HB := n2_; clear n0_ n1_ n2_; (try clear hb); (try clear hb2); (try clear hk); (try clear hi); (try clear ho0); obtain ⟨Ao48, co48, eo48⟩ := Kd.R_slice HO353.out; subst eo48; obtain ⟨Ao49, co49, eo49⟩ := Kd.R_slice HO357.out; subst eo49) | (go_at_call 33; (with_reducible refine (laws_sdFields.calls kj8 _ _ t350 _ _ t354 true _ ?side1 ?side2 ?side3 ?side4 A41.out).mono ?_); (case side1 => repeat (first | exact (Kd.R_reads' HO353.out).2.2 | (with_reducible refine Kd.C_alloc ?_ _) | (with_reducible refine Kd.C_drewN ?_ _) | (with_reducible refine Kd.C_drew ?_))); (case side2 => exact (Kd.R_reads' HO353.out).2.1); (case side3 => repeat (first | exact (Kd.R_reads' HO357.out).2.2 | (with_reducible refine Kd.C_alloc ?_ _) | (with_reducible refine Kd.C_drewN ?_ _) | (with_reducible refine Kd.C_drew ?_))); (case side4 => exact (Kd.R_reads' HO357.out).2.1); rintro e w' ⟨rfl, ⟨nd, rfl⟩⟩) | (go_at_call 30; (with_reducible refine (impl_FieldsPut.calls kj8 _ _ t350 t359 _ ?side1 ?side2 ?side3 A44.out).mono ?_); (case side1 => exact StopsIn.below HG_.out u0_); (case side2 => repeat (first | exact (Kd.R_reads' HO353.out).2.2 | (with_reducible refine Kd.C_alloc ?_ _) | (with_reducible refine Kd.C_drewN ?_ _) | (with_reducible refine Kd.C_drew ?_))); (case side3 => exact (Kd.R_reads' HO353.out).2.1); rintro e w50 ⟨rfl, hb⟩; have n0_ := Aside0.mk (Kd.R_below u30_ hb); have n1_ := Aside0.mk (Kd.R_below (by (with_reducible repeat (first | apply Kd.R_alloc | apply Kd.R_drewN | apply Kd.R_drew)); exact HO357.out) hb); have n2_ := Aside0.mk (below_step u0_ hb); clear HO353; clear HO357; clear HB; have HO353 := n0_; have HO357 := n1_; have HB := n2_; clear n0_ n1_ n2_; (try clear hb); (try clear hb2); (try clear hk); (try clear hi)))
          go_ret
          exact ⟨u4_, u0_⟩
         ·replace c43 := Bool.eq_false_iff.mpr c43
          subst c43
          have H1 : (some true) = some r := by rw [if_neg (show ¬ (false = true) by decide)] at H; exact H
          clear H
          have H := H1
          clear H1
          obtain rfl := Option.some.inj H
          go_wp2_with (first | ((with_reducible refine gate_callee (f := 34) rfl ?_); refine goesL_ (some 58) rfl rfl Tryd.func34 u20_ rfl #[.slice A1 l1.length c1] rfl u1_ ?_; (with_reducible refine (spec_DrawFieldsGet.calls kj8 _ _ l1 t349 _ ?side1 ?side2 A37.out).mono ?_); (case side1 => repeat (first | exact (Kd.C_below HR1.out HB.out) | (with_reducible refine Kd.C_alloc ?_ _) | (with_reducible refine Kd.C_drewN ?_ _) | (with_reducible refine Kd.C_drew ?_))); (case side2 => exact HC1.out); rintro e w51 ⟨rfl, hb⟩; refine ⟨_, rfl, ?_⟩; have n0_ := Aside0.mk (below_step u0_ hb); clear HB; have HB := n0_; clear n0_; (try clear hb); (try clear hb2); (try clear hk); (try clear hi)) | ((with_reducible refine gate_callee (f := 21) rfl ?_); refine goesL_ (some 61) rfl rfl Tryd.func21 u20_ rfl #[.string t349] rfl u1_ ?_; (with_reducible refine (impl_FieldsGet.calls kj8 t349 t350 false _ ?side1 A38.out).mono ?_); (case side1 => exact StopsIn.below HG_.out u0_); rintro e w52 ⟨v352, rfl, ho0, hb⟩; refine ⟨_, rfl, ?_⟩; have n0_ := Aside0.mk (Kd.R_lower ho0 (below_size u0_)); have n1_ := Aside0.mk (below_step u0_ hb); clear HB; have HO353 := n0_; have HB := n1_; clear n0_ n1_; (try clear hb); (try clear hb2); (try clear hk); (try clear hi); (try clear ho0)) | ((with_reducible refine gate_callee (f := 20) rfl ?_); refine goesL_ (some 66) rfl rfl Tryd.func20 u20_ rfl #[.string t349] rfl u1_ ?_; (with_reducible refine (spec_FieldsGet.calls kj8 t349 t354 t355 _ A39.out).mono ?_); rintro e w53 ⟨v356, rfl, ho0, hb⟩; refine ⟨_, rfl, ?_⟩; have n0_ := Aside0.mk (Kd.R_elder' u30_ (Kd.R_base ho0) hb); have n1_ := Aside0.mk (Kd.R_lower (Kd.R_new' ho0 (Kd.R_lt u30_)) (below_size u0_)); have n2_ := Aside0.mk (below_step u0_ hb); clear HO353; clear HB; have HO353 := n0_; have HO357 := n1_; have HB := n2_; clear n0_ n1_ n2_; (try clear hb); (try clear hb2); (try clear hk); (try clear hi); (try clear ho0); obtain ⟨Ao54, co54, eo54⟩ := Kd.R_slice HO353.out; subst eo54; obtain ⟨Ao55, co55, eo55⟩ := Kd.R_slice HO357.out; subst eo55) | (go_at_call 33; (with_reducible refine (laws_sdFields.calls kj8 _ _ t350 _ _ t354 true _ ?side1 ?side2 ?side3 ?side4 A41.out).mono ?_); (case side1 => repeat (first | exact (Kd.R_reads' HO353.out).2.2 | (with_reducible refine Kd.C_alloc ?_ _) | (with_reducible refine Kd.C_drewN ?_ _) | (with_reducible refine Kd.C_drew ?_))); (case side2 => exact (Kd.R_reads' HO353.out).2.1); (case side3 => repeat (first | exact (Kd.R_reads' HO357.out).2.2 | (with_reducible refine Kd.C_alloc ?_ _) | (with_reducible refine Kd.C_drewN ?_ _) | (with_reducible refine Kd.C_drew ?_))); (case side4 => exact (Kd.R_reads' HO357.out).2.1); rintro e w' ⟨rfl, ⟨nd, rfl⟩⟩))
          go_ret
          exact ⟨u4_, u0_⟩
        ·replace c42 := Bool.eq_false_iff.mpr c42
         subst c42
         have H1 : (some false) = some r := by rw [if_neg (show ¬ (false = true) by decide)] at H; exact H
         clear H
         have H := H1
         clear H1
         obtain rfl := Option.some.inj H
         go_wp2_with (first | ((with_reducible refine gate_callee (f := 34) rfl ?_); refine goesL_ (some 58) rfl rfl Tryd.func34 u20_ rfl #[.slice A1 l1.length c1] rfl u1_ ?_; (with_reducible refine (spec_DrawFieldsGet.calls kj8 _ _ l1 t349 _ ?side1 ?side2 A37.out).mono ?_); (case side1 => repeat (first | exact (Kd.C_below HR1.out HB.out) | (with_reducible refine Kd.C_alloc ?_ _) | (with_reducible refine Kd.C_drewN ?_ _) | (with_reducible refine Kd.C_drew ?_))); (case side2 => exact HC1.out); rintro e w56 ⟨rfl, hb⟩; refine ⟨_, rfl, ?_⟩; have n0_ := Aside0.mk (below_step u0_ hb); clear HB; have HB := n0_; clear n0_; (try clear hb); (try clear hb2); (try clear hk); (try clear hi)) | ((with_reducible refine gate_callee (f := 21) rfl ?_); refine goesL_ (some 61) rfl rfl Tryd.func21 u20_ rfl #[.string t349] rfl u1_ ?_; (with_reducible refine (impl_FieldsGet.calls kj8 t349 t350 t351 _ ?side1 A38.out).mono ?_); (case side1 => exact StopsIn.below HG_.out u0_); rintro e w57 ⟨v352, rfl, ho0, hb⟩; refine ⟨_, rfl, ?_⟩; have n0_ := Aside0.mk (Kd.R_lower ho0 (below_size u0_)); have n1_ := Aside0.mk (below_step u0_ hb); clear HB; have HO353 := n0_; have HB := n1_; clear n0_ n1_; (try clear hb); (try clear hb2); (try clear hk); (try clear hi); (try clear ho0)) | ((with_reducible refine gate_callee (f := 20) rfl ?_); refine goesL_ (some 66) rfl rfl Tryd.func20 u20_ rfl #[.string t349] rfl u1_ ?_; (with_reducible refine (spec_FieldsGet.calls kj8 t349 t354 t355 _ A39.out).mono ?_); rintro e w58 ⟨v356, rfl, ho0, hb⟩; refine ⟨_, rfl, ?_⟩; have n0_ := Aside0.mk (Kd.R_elder' u30_ (Kd.R_base ho0) hb); have n1_ := Aside0.mk (Kd.R_lower (Kd.R_new' ho0 (Kd.R_lt u30_)) (below_size u0_)); have n2_ := Aside0.mk (below_step u0_ hb); clear HO353; clear HB; have HO353 := n0_; have HO357 := n1_; have HB := n2_; clear n0_ n1_ n2_; (try clear hb); (try clear hb2); (try clear hk); (try clear hi); (try clear ho0); obtain ⟨Ao59, co59, eo59⟩ := Kd.R_slice HO353.out; subst eo59; obtain ⟨Ao60, co60, eo60⟩ := Kd.R_slice HO357.out; subst eo60) | (go_at_call 33; (with_reducible refine (laws_sdFields.calls kj8 _ _ t350 _ _ t354 false _ ?side1 ?side2 ?side3 ?side4 A41.out).mono ?_); (case side1 => repeat (first | exact (Kd.R_reads' HO353.out).2.2 | (with_reducible refine Kd.C_alloc ?_ _) | (with_reducible refine Kd.C_drewN ?_ _) | (with_reducible refine Kd.C_drew ?_))); (case side2 => exact (Kd.R_reads' HO353.out).2.1); (case side3 => repeat (first | exact (Kd.R_reads' HO357.out).2.2 | (with_reducible refine Kd.C_alloc ?_ _) | (with_reducible refine Kd.C_drewN ?_ _) | (with_reducible refine Kd.C_drew ?_))); (case side4 => exact (Kd.R_reads' HO357.out).2.1); rintro e w' ⟨rfl, ⟨nd, rfl⟩⟩))
         go_ret
         exact ⟨u4_, u0_⟩
       ·rw [if_neg c40] at H
        have c40b0 : (t351 == t355) = false := by simpa using c40
        (try (have c40b1 : decide (t351 = t355) = false := by simpa using c40))
        (try (have c40b2 : (t351 == t355) = false := by simpa using c40))
        (try (have c40b3 : ¬ (t351 = t355) := by simpa using c40))
        clear c40
        obtain rfl := Option.some.inj H
        go_wp2_with (first | ((with_reducible refine gate_callee (f := 34) rfl ?_); refine goesL_ (some 58) rfl rfl Tryd.func34 u20_ rfl #[.slice A1 l1.length c1] rfl u1_ ?_; (with_reducible refine (spec_DrawFieldsGet.calls kj8 _ _ l1 t349 _ ?side1 ?side2 A37.out).mono ?_); (case side1 => repeat (first | exact (Kd.C_below HR1.out HB.out) | (with_reducible refine Kd.C_alloc ?_ _) | (with_reducible refine Kd.C_drewN ?_ _) | (with_reducible refine Kd.C_drew ?_))); (case side2 => exact HC1.out); rintro e w61 ⟨rfl, hb⟩; refine ⟨_, rfl, ?_⟩; have n0_ := Aside0.mk (below_step u0_ hb); clear HB; have HB := n0_; clear n0_; (try clear hb); (try clear hb2); (try clear hk); (try clear hi)) | ((with_reducible refine gate_callee (f := 21) rfl ?_); refine goesL_ (some 61) rfl rfl Tryd.func21 u20_ rfl #[.string t349] rfl u1_ ?_; (with_reducible refine (impl_FieldsGet.calls kj8 t349 t350 t351 _ ?side1 A38.out).mono ?_); (case side1 => exact StopsIn.below HG_.out u0_); rintro e w62 ⟨v352, rfl, ho0, hb⟩; refine ⟨_, rfl, ?_⟩; have n0_ := Aside0.mk (Kd.R_lower ho0 (below_size u0_)); have n1_ := Aside0.mk (below_step u0_ hb); clear HB; have HO353 := n0_; have HB := n1_; clear n0_ n1_; (try clear hb); (try clear hb2); (try clear hk); (try clear hi); (try clear ho0)) | ((with_reducible refine gate_callee (f := 20) rfl ?_); refine goesL_ (some 66) rfl rfl Tryd.func20 u20_ rfl #[.string t349] rfl u1_ ?_; (with_reducible refine (spec_FieldsGet.calls kj8 t349 t354 t355 _ A39.out).mono ?_); rintro e w63 ⟨v356, rfl, ho0, hb⟩; refine ⟨_, rfl, ?_⟩; have n0_ := Aside0.mk (Kd.R_elder' u30_ (Kd.R_base ho0) hb); have n1_ := Aside0.mk (Kd.R_lower (Kd.R_new' ho0 (Kd.R_lt u30_)) (below_size u0_)); have n2_ := Aside0.mk (below_step u0_ hb); clear HO353; clear HB; have HO353 := n0_; have HO357 := n1_; have HB := n2_; clear n0_ n1_ n2_; (try clear hb); (try clear hb2); (try clear hk); (try clear hi); (try clear ho0)))
        go_ret
        exact ⟨u4_, u0_⟩

end Go.Proofs.YtelcdhjdlgedeaaDoor.PFnFields
