/- Contracts of Go functions that the law FnFields reaches: each is told as a plain Lean function, with the walk that shows it; no condition beyond what each states. Written by a program of this session round the kit's printer. -/
import Derived.Test.YtelcdhjdlgedeaaDoorRPFnFieldsx0
import Derived.Test.YtelcdhjdlgedeaaDoorRPFnFieldsx6
namespace Go.Proofs.YtelcdhjdlgedeaaDoor.PFnFields
open Go.RowKit Go.Proofs.YtelcdhjdlgedeaaDoorW.PrintWords Go.Proofs.YtelcdhjdlgedeaaDoorW.PrintLast Go.Proofs.YtelcdhjdlgedeaaDoorW.PrintMore
attribute [local go_sem] isSome_setCell run_str_geq run_str_leq max2_int min2_int max_two min_two max_three min_three max_four min_four   -- for this text's walks alone
set_option linter.unusedVariables false
set_option linter.unusedSimpArgs false

/-! ### impl_FieldsPut: function 30 -/
def impl_FieldsPut.l0 : Nat → List ByteArray → List (S75) → Int → Int → Option (ByteArray)
 | 0, _, _, _, _ => none
 | k + 1, x3, x10, x11, x12 => if x12 < x11 then (if 0 ≤ x12 then (if x12 < (x10.length : Int) then (if ((rd_T75 x10 x12).f1) = 1 then (if ((rd_T75 x10 x12).f0).size + 6 ≤ 9223372036854775807 then ((strconv_Itoa.f ((rd_T75 x10 x12).f2)).bind fun t199 => (if (((rd_T75 x10 x12).f0) ++ (⟨#[58, 116, 101, 120, 116, 58]⟩ : ByteArray)).size + t199.size ≤ 9223372036854775807 then (if x3.length < 8796093022208 then (impl_FieldsPut.l0 k (x3 ++ [(((rd_T75 x10 x12).f0) ++ (⟨#[58, 116, 101, 120, 116, 58]⟩ : ByteArray)) ++ t199]) x10 x11 (wrap64 (x12 + 1))) else (none)) else (none))) else (none)) else (if ((rd_T75 x10 x12).f1) = 2 then (if ((rd_T75 x10 x12).f0).size + 4 ≤ 9223372036854775807 then (if x3.length < 8796093022208 then (impl_FieldsPut.l0 k (x3 ++ [((rd_T75 x10 x12).f0) ++ (⟨#[58, 110, 117, 109]⟩ : ByteArray)]) x10 x11 (wrap64 (x12 + 1))) else (none)) else (none)) else (if ((rd_T75 x10 x12).f0).size + 4 ≤ 9223372036854775807 then (if x3.length < 8796093022208 then (impl_FieldsPut.l0 k (x3 ++ [((rd_T75 x10 x12).f0) ++ (⟨#[58, 116, 97, 103]⟩ : ByteArray)]) x10 x11 (wrap64 (x12 + 1))) else (none)) else (none)))) else (none)) else (none)) else ((strings_Join.f x3 (⟨#[32]⟩ : ByteArray)).bind fun t196 => (some t196))
def impl_FieldsPut.f (k : Nat) (l0 : List (S75)) : Option (ByteArray) := (impl_FieldsOk.f k l0).bind fun t192 => (if t192 = true then (impl_FieldsPut.l0 k (([] : List ByteArray)) l0 (l0.length : Int) 0) else (some (⟨#[]⟩ : ByteArray)))
theorem impl_FieldsPut.mono_l : ∀ k, (∀ y0 y1 y2 y3, LeO (impl_FieldsPut.l0 k y0 y1 y2 y3) (impl_FieldsPut.l0 (k + 1) y0 y1 y2 y3))
 | 0 => fun _ _ _ _ r h => by simp [impl_FieldsPut.l0] at h
 | k + 1 => by
  have ih0 := impl_FieldsPut.mono_l k
  ·intro y0 y1 y2 y3
   unfold impl_FieldsPut.l0
   repeat' first
   | (with_reducible exact ih0 _ _ _ _)
   | (with_reducible exact impl_FieldsOk.mono _ _)
   | (with_reducible exact LeO.refl _)
   | (with_reducible exact LeO.none _)
   | (with_reducible refine LeO.ite ?_ ?_)
   | (with_reducible refine LeO.bind ?_ (fun _ => ?_))
   | exact ih0 _ _ _ _
   | exact impl_FieldsOk.mono _ _
   | exact LeO.none _
   | refine LeO.ite ?_ ?_
   | refine LeO.bind ?_ (fun _ => ?_)
theorem impl_FieldsPut.mono : ∀ a0 k, LeO (impl_FieldsPut.f k a0) (impl_FieldsPut.f (k + 1) a0) := by
 intro a0 k
 have ih0 := impl_FieldsPut.mono_l k
 unfold impl_FieldsPut.f
 repeat' first
   | (with_reducible exact ih0 _ _ _ _)
   | (with_reducible exact impl_FieldsOk.mono _ _)
   | (with_reducible exact LeO.refl _)
   | (with_reducible exact LeO.none _)
   | (with_reducible refine LeO.ite ?_ ?_)
   | (with_reducible refine LeO.bind ?_ (fun _ => ?_))
   | exact ih0 _ _ _ _
   | exact impl_FieldsOk.mono _ _
   | exact LeO.none _
   | refine LeO.ite ?_ ?_
   | refine LeO.bind ?_ (fun _ => ?_)
def impl_FieldsPut.T10 : Bool × List (List Nat × List Nat) := (true, [([], []), ([], []), ([1], [1]), ([2], [2]), ([], []), ([4], [4]), ([5], [5]), ([3, 6], [3, 6]), ([7], [7]), ([0, 8, 6], [0, 8]), ([9, 9, 0, 1, 2, 3, 4, 5, 6, 7, 8, 9], [0, 9])])
def impl_FieldsPut.B10 : List Nat := [0, 0, 2, 6, 0, 16, 48, 126, 254, 511, 1023]
theorem impl_FieldsPut.tab10 : rtab .any (opsOf Tryd.f30 10) = impl_FieldsPut.T10 := by kernel_rfl
theorem impl_FieldsPut.bits10 : waitsOk impl_FieldsPut.T10.2 impl_FieldsPut.B10 = true := by kernel_rfl
set_option maxHeartbeats 8000000 in
set_option maxRecDepth 100000 in
theorem impl_FieldsPut.calls (k : Nat) (A0 : Option Addr) (c0 : Nat) (l0 : List (S75)) (r : ByteArray) (w : World) (hG : StopsIn w) (hr0 : Kd.C k75 w A0 l0.length l0) (hc0 : l0.length ≤ c0) (h : impl_FieldsPut.f k l0 = some r) :
  Calls Tryd.prog 30 #[.slice A0 l0.length c0] w fun e w' => e = .returned (.string r) ∧ Below w.heap.size w w' := by
 have hu75 := Tryd.underlying75
 have HG_ := Aside0.mk hG
 clear hG
 have HR0 := Aside0.mk hr0
 have HC0 := Aside0.mk hc0
 clear hr0 hc0
 have HB := Aside0.mk (Below.refl w.heap.size w)
 have H : ((impl_FieldsOk.f k l0).bind fun t192 => (if t192 = true then (impl_FieldsPut.l0 k (([] : List ByteArray)) l0 (l0.length : Int) 0) else (some (⟨#[]⟩ : ByteArray)))) = some r := h
 clear h
 replace H := Option.bind_eq_some_iff.mp H
 obtain ⟨t192, A20, H⟩ := H
 replace H : (if t192 = true then (impl_FieldsPut.l0 k (([] : List ByteArray)) l0 (l0.length : Int) 0) else (some (⟨#[]⟩ : ByteArray))) = some r := H
 have A2 := Aside0.mk A20
 clear A20
 by_cases c3 : t192 = true
 ·subst c3
  have H1 : (impl_FieldsPut.l0 k (([] : List ByteArray)) l0 (l0.length : Int) 0) = some r := by rw [if_pos rfl] at H; exact H
  clear H
  have H := H1
  clear H1
  obtain ⟨y193, hy193⟩ : ∃ y_ : List ByteArray, y_ = (([] : List ByteArray)) := ⟨_, rfl⟩
  replace H : (impl_FieldsPut.l0 k y193 l0 (l0.length : Int) 0) = some r := by first | (rw [hy193]; with_reducible exact H) | (have H2_ := (Option.bind_some _ _).symm.trans H; rw [hy193]; with_reducible exact H2_) | (have H2_ := (Option.bind_some _ _).symm.trans H; with_reducible exact H2_) | with_reducible exact H | (rw [hy193]; exact H) | exact H
  have Ny193 := Aside0.mk hy193
  clear hy193
  have H' := Aside0.mk H
  clear H
  go_enter Tryd.func30, Tryd.ntmps30
  go_wp2_with (first | ((with_reducible refine gate_callee (f := 28) rfl ?_); refine goesL_ (some 7) rfl rfl Tryd.func28 u20_ rfl #[.slice A0 l0.length c0] rfl u1_ ?_; (with_reducible refine (impl_FieldsOk.calls k _ _ l0 true _ ?side1 ?side2 A2.out).mono ?_); (case side1 => repeat (first | exact HR0.out | (with_reducible refine Kd.C_alloc ?_ _) | (with_reducible refine Kd.C_drewN ?_ _) | (with_reducible refine Kd.C_drew ?_))); (case side2 => exact HC0.out); rintro e w4 ⟨rfl, hb⟩; refine ⟨_, rfl, ?_⟩; have n0_ := Aside0.mk (below_step u0_ hb); clear HB; have HB := n0_; clear n0_; (try clear hb); (try clear hb2); (try clear hk); (try clear hi)) | ((with_reducible refine gate_dst (N := 9) rfl ?_); refine Kd.R_lit Kd.string _ 9 ?hg (N := 9) ?hd (xs := ([] : List ByteArray)) (inner := []) (ok := fun _ => True) (okp := fun _ => True) ?hr ?hp (fun _ hk => hk) trivial (Below.refl _ _) (Nat.le_refl _) u43_ ?_; (case hd => rfl); (case hg => rfl); (case hr => first | (go_simp; done) | (go_simp; rfl)); (case hp => exact (Reps.none _ _)); intro v194 w5 ho6 hb hg_ hnew_; clear hg_ hnew_; (first | rw [← Ny193.out] at ho6 | (simp only [Int.reduceToNat] at ho6; rw [← Ny193.out] at ho6)); have n0_ := Aside0.mk (Kd.R_lower ho6 (below_size u0_)); have n1_ := Aside0.mk (below_step u0_ hb); clear HB; have HO195 := n0_; have HB := n1_; clear n0_ n1_; clear hb ho6))
  go_loopg [3, 12] k (fun kq v3 v12 w' => ∃ (x3_1 : List ByteArray) (x12_1 : Int), v12 = .int .i64 x12_1 ∧ Aside0 (impl_FieldsPut.l0 kq x3_1 l0 (l0.length : Int) x12_1 = some r) ∧ Aside0 (kq ≤ k) ∧ Aside0 (Kd.R Kd.string 9 w' w.heap.size (fun _ => True) v3 x3_1) ∧ Aside0 (Below w.heap.size w w'))
  case atStart => exact ⟨(y193), (0), u10_, H', ⟨Nat.le_refl _⟩, ⟨by (with_reducible repeat (first | apply Kd.R_alloc | apply Kd.R_drewN | apply Kd.R_drew)); exact HO195.out⟩, ⟨u0_⟩⟩
  case round =>
   clear H'
   try clear c2
   try clear p2
   try clear c3
   obtain ⟨x3_1, x12_1, rfl, HA, HK1, HO_3, HB⟩ := hrel
   cases gk with
   | zero => exact absurd HA.out (by simp [impl_FieldsPut.l0])
   | succ k1 =>
    have H := HA.out
    clear HA
    simp only [impl_FieldsPut.l0] at H
    by_cases c7 : x12_1 < (l0.length : Int)
    ·rw [if_pos c7] at H
     have c7b0 : decide (x12_1 < (l0.length : Int)) = true := decide_eq_true c7
     clear c7
     by_cases c8 : 0 ≤ x12_1
     ·rw [if_pos c8] at H
      have c8b0 : decide (0 ≤ x12_1) = true := decide_eq_true c8
      clear c8
      by_cases c9 : x12_1 < (l0.length : Int)
      ·rw [if_pos c9] at H
       have c9b0 : decide (x12_1 < (l0.length : Int)) = true := decide_eq_true c9
       clear c9
       by_cases c10 : ((rd_T75 l0 x12_1).f1) = 1
       ·rw [if_pos c10] at H
        have c10b0 : (((rd_T75 l0 x12_1).f1) == 1) = true := beq_iff_eq.mpr c10
        have c10b1 : (((rd_T75 l0 x12_1).f1) != 1) = false := bne_eq_false_iff_eq.mpr c10
        clear c10
        by_cases c11 : ((rd_T75 l0 x12_1).f0).size + 6 ≤ 9223372036854775807
        ·rw [if_pos c11] at H
         have c11b0 := eq_true c11
         have c11b1 : decide (((rd_T75 l0 x12_1).f0).size + 6 ≤ 9223372036854775807) = true := decide_eq_true c11
         try have c11b2 : (9223372036854775807 < ((rd_T75 l0 x12_1).f0).size + 6) = False := eq_false (Nat.not_lt.2 c11)
         replace H := Option.bind_eq_some_iff.mp H
         obtain ⟨t199, A120, H⟩ := H
         replace H : (if (((rd_T75 l0 x12_1).f0) ++ (⟨#[58, 116, 101, 120, 116, 58]⟩ : ByteArray)).size + t199.size ≤ 9223372036854775807 then (if x3_1.length < 8796093022208 then (impl_FieldsPut.l0 k1 (x3_1 ++ [(((rd_T75 l0 x12_1).f0) ++ (⟨#[58, 116, 101, 120, 116, 58]⟩ : ByteArray)) ++ t199]) l0 (l0.length : Int) (wrap64 (x12_1 + 1))) else (none)) else (none)) = some r := H
         have A12 := Aside0.mk A120
         clear A120
         by_cases c13 : (((rd_T75 l0 x12_1).f0) ++ (⟨#[58, 116, 101, 120, 116, 58]⟩ : ByteArray)).size + t199.size ≤ 9223372036854775807
         ·rw [if_pos c13] at H
          have c13b0 := eq_true c13
          have c13b1 : decide ((((rd_T75 l0 x12_1).f0) ++ (⟨#[58, 116, 101, 120, 116, 58]⟩ : ByteArray)).size + t199.size ≤ 9223372036854775807) = true := decide_eq_true c13
          try have c13b2 : (9223372036854775807 < (((rd_T75 l0 x12_1).f0) ++ (⟨#[58, 116, 101, 120, 116, 58]⟩ : ByteArray)).size + t199.size) = False := eq_false (Nat.not_lt.2 c13)
          try have c13b3 := c13; try simp only [ByteArray.size_append, size_lit, List.size_toArray, List.length_cons, List.length_nil, Nat.zero_add, Nat.reduceAdd] at c13b3; try have c13b4 := eq_true c13b3; try have c13b5 := decide_eq_true c13b3; try have c13b6 := eq_false (Nat.not_lt.2 c13b3)
          try have c13b7 := c13b3; try simp at c13b7; try have c13b8 := eq_true c13b7; try have c13b9 := decide_eq_true c13b7; try have c13bA := eq_false (Nat.not_lt.2 c13b7)
          by_cases c14 : x3_1.length < 8796093022208
          ·rw [if_pos c14] at H
           have LMc14 := Aside0.mk c14
           clear c14
           obtain ⟨y200, hy200⟩ : ∃ y_ : List ByteArray, y_ = (x3_1 ++ [(((rd_T75 l0 x12_1).f0) ++ (⟨#[58, 116, 101, 120, 116, 58]⟩ : ByteArray)) ++ t199]) := ⟨_, rfl⟩
           replace H : (impl_FieldsPut.l0 k1 y200 l0 (l0.length : Int) (wrap64 (x12_1 + 1))) = some r := by first | (rw [hy200]; with_reducible exact H) | (have H2_ := (Option.bind_some _ _).symm.trans H; rw [hy200]; with_reducible exact H2_) | (have H2_ := (Option.bind_some _ _).symm.trans H; with_reducible exact H2_) | with_reducible exact H | (rw [hy200]; exact H) | exact H
           have Ny200 := Aside0.mk hy200
           clear hy200
           have H' := Aside0.mk H
           clear H
           have p197 : 0 ≤ (x12_1 : Int) := of_decide_eq_true u3_
           have q197 : x12_1 < (l0.length : Int) := of_decide_eq_true u3_
           obtain ⟨ad197, e197, hx197_0, hx197_1, hx197_2⟩ := at_T75 HR0.out x12_1 p197 q197
           cases e197
           replace hx197_0 := (HB.out.cell (World.block_lt_of_cell? w _ hx197_0)).trans hx197_0
           replace hx197_1 := (HB.out.cell (World.block_lt_of_cell? w _ hx197_1)).trans hx197_1
           replace hx197_2 := (HB.out.cell (World.block_lt_of_cell? w _ hx197_2)).trans hx197_2
           replace p197 := eq_true p197
           replace q197 := eq_true q197
           try go_wp2_with (first | ((with_reducible refine gate_dst (N := 5) rfl ?_); refine box_event ?hg (N := 5) ?hd (cs := #[.string (⟨#[]⟩ : ByteArray), .int .i64 0, .int .i64 0]) (t := 75) ?hr ?_; (case hd => rfl); (case hg => rfl); (case hr => first | (go_simp; done) | (go_simp; rfl)); intro gb198 hg w15 hbox hb; have n0_ := Aside0.mk (Kd.R_below u16_ hb); have n1_ := Aside0.mk (below_step u0_ hb); have n2_ := Aside0.mk (hbox); have n3_ := Aside0.mk ((by rw [hg]; exact (below_size u0_) : w.heap.size ≤ gb198)); have n4_ := n3_; clear HO_3; clear HB; have HO_3 := n0_; have HB := n1_; have BK198 := n2_; have GW198 := n3_; have GE198 := n4_; clear n0_ n1_ n2_ n3_ n4_; clear hb hbox hg; have hcz16_0 : w15.cell? ⟨gb198, 0, none⟩ = some (.string (⟨#[]⟩ : ByteArray)) := (blk_cell BK198.out 0).trans rfl; have hcz16_1 : w15.cell? ⟨gb198, 1, none⟩ = some (.int .i64 0) := (blk_cell BK198.out 1).trans rfl; have hcz16_2 : w15.cell? ⟨gb198, 2, none⟩ = some (.int .i64 0) := (blk_cell BK198.out 2).trans rfl; have hfz16_0 := blk_frozen BK198.out 0; have hfz16_1 := blk_frozen BK198.out 1; have hfz16_2 := blk_frozen BK198.out 2))
           have n0_ : Aside0 (Kd.R Kd.string 9 (((w15.setCell ⟨gb198, 0, none⟩ (.string ((rd_T75 l0 x12_1).f0))).setCell ⟨gb198, 1, none⟩ (.int .i64 ((rd_T75 l0 x12_1).f1))).setCell ⟨gb198, 2, none⟩ (.int .i64 ((rd_T75 l0 x12_1).f2))) w.heap.size (fun _ => True) u3 x3_1) := ⟨u65_⟩
           have n1_ : Aside0 ((((w15.setCell ⟨gb198, 0, none⟩ (.string ((rd_T75 l0 x12_1).f0))).setCell ⟨gb198, 1, none⟩ (.int .i64 ((rd_T75 l0 x12_1).f1))).setCell ⟨gb198, 2, none⟩ (.int .i64 ((rd_T75 l0 x12_1).f2))).heap[gb198]? = some (.cells #[.string ((rd_T75 l0 x12_1).f0), .int .i64 ((rd_T75 l0 x12_1).f1), .int .i64 ((rd_T75 l0 x12_1).f2)] 75 (0, 0))) := ⟨u21_⟩
           have n2_ : Aside0 (Below w.heap.size w (((w15.setCell ⟨gb198, 0, none⟩ (.string ((rd_T75 l0 x12_1).f0))).setCell ⟨gb198, 1, none⟩ (.int .i64 ((rd_T75 l0 x12_1).f1))).setCell ⟨gb198, 2, none⟩ (.int .i64 ((rd_T75 l0 x12_1).f2)))) := ⟨u17_⟩
           (try clear HO_3)
           (try clear BK198)
           (try clear HB)
           generalize (((w15.setCell ⟨gb198, 0, none⟩ (.string ((rd_T75 l0 x12_1).f0))).setCell ⟨gb198, 1, none⟩ (.int .i64 ((rd_T75 l0 x12_1).f1))).setCell ⟨gb198, 2, none⟩ (.int .i64 ((rd_T75 l0 x12_1).f2))) = w17 at n0_ n1_ n2_ ⊢
           have HO_3 := n0_
           have BK198 := n1_
           have HB := n2_
           clear n0_ n1_ n2_
           have n0_ := Aside0.mk (Kd.R_drew HO_3.out)
           have n1_ := Aside0.mk (blk_drew BK198.out)
           have n2_ := Aside0.mk (below_drew1 HB.out)
           clear HO_3
           clear BK198
           clear HB
           have HO_3 := n0_
           have BK198 := n1_
           have HB := n2_
           clear n0_ n1_ n2_
           refine start_ (n := 11) (S := fun w' => w'.cell? ⟨gb198, 0, none⟩ = some (.string ((rd_T75 l0 x12_1).f0)) ∧ w'.cell? ⟨gb198, 1, none⟩ = some (.int .i64 ((rd_T75 l0 x12_1).f1)) ∧ w'.cell? ⟨gb198, 2, none⟩ = some (.int .i64 ((rd_T75 l0 x12_1).f2))) (ds := []) #[false, false, false, false, false, false, false, false, false, false, false] u20_ rfl rfl ⟨(blk_cell BK198.out 0).trans rfl, (blk_cell BK198.out 1).trans rfl, (blk_cell BK198.out 2).trans rfl⟩ (fun hHeld => ?_); refine with_tabW impl_FieldsPut.tab10 impl_FieldsPut.bits10 (fun HT_ HW_ => ?_)
           generalize w17.drew = w18 at HO_3 BK198 HB hHeld ⊢
           refine pure_ (i := 0) (N := some 26) (v := ?_) (a' := ?_) #[true, false, false, false, false, false, false, false, false, false, false] rfl rfl (any_of HT_.out u20_) (fun _ _ _ h => h) (Or.inl ⟨by rfl, ?_⟩) ?_ ?_
           rotate_left
           ·intro w'
            go_simp
            with_reducible rfl
           rotate_left
           ·simp only [Act.put, List.setIfInBounds_toArray, List.set_cons_zero, List.set_cons_succ, i64_w, i32_w]
            rfl
           refine pure_ (i := 1) (N := some 27) (v := ?_) (a' := ?_) #[true, true, false, false, false, false, false, false, false, false, false] rfl rfl (any_of HT_.out u20_) (fun _ _ _ h => h) (Or.inl ⟨by rfl, ?_⟩) ?_ ?_
           rotate_left
           ·intro w'
            go_simp
            with_reducible rfl
           rotate_left
           ·simp only [Act.put, List.setIfInBounds_toArray, List.set_cons_zero, List.set_cons_succ, i64_w, i32_w]
            rfl
           refine pure_ (i := 4) (N := some 30) (v := ?_) (a' := ?_) #[true, true, false, false, true, false, false, false, false, false, false] rfl rfl (any_of HT_.out u20_) (fun _ _ _ h => h) (Or.inl ⟨by rfl, ?_⟩) ?_ ?_
           rotate_left
           ·intro w'
            go_simp
            with_reducible rfl
           rotate_left
           ·simp only [Act.put, List.setIfInBounds_toArray, List.set_cons_zero, List.set_cons_succ, i64_w, i32_w]
            rfl
           refine take_ (i := 2) (N := some 28) (v := ?_) (a' := ?_) #[true, true, true, false, true, false, false, false, false, false, false] rfl rfl (take_ofW HT_.out HW_.out u20_) (fun _ _ _ h => h) (Or.inl ⟨by rfl, ?_⟩) hHeld ?_ ?_
           rotate_left
           ·rintro w' ⟨s0, s1, s2⟩
            go_simp
            with_reducible rfl
           rotate_left
           ·simp only [Act.put, List.setIfInBounds_toArray, List.set_cons_zero, List.set_cons_succ, i64_w, i32_w]
            rfl
           refine pure_ (i := 3) (N := some 29) (v := ?_) (a' := ?_) #[true, true, true, true, true, false, false, false, false, false, false] rfl rfl (any_of HT_.out u20_) (fun _ _ _ h => h) (Or.inl ⟨by rfl, ?_⟩) ?_ ?_
           rotate_left
           ·intro w'
            go_simp
            with_reducible rfl
           rotate_left
           ·simp only [Act.put, List.setIfInBounds_toArray, List.set_cons_zero, List.set_cons_succ, i64_w, i32_w]
            rfl
           refine take_ (i := 5) (N := some 31) (v := ?_) (a' := ?_) #[true, true, true, true, true, true, false, false, false, false, false] rfl rfl (take_ofW HT_.out HW_.out u20_) (fun _ _ _ h => h) (Or.inl ⟨by rfl, ?_⟩) hHeld ?_ ?_
           rotate_left
           ·rintro w' ⟨s0, s1, s2⟩
            go_simp
            with_reducible rfl
           rotate_left
           ·simp only [Act.put, List.setIfInBounds_toArray, List.set_cons_zero, List.set_cons_succ, i64_w, i32_w]
            rfl
           refine one_ (i := 6) (N := some 32) #[true, true, true, true, true, true, true, false, false, false, false] rfl rfl (one_of HT_.out u20_) u31_ (fun K hK => ?_)
           refine goes_ Tryd.func48 u20_ rfl #[.int .i64 ((rd_T75 l0 x12_1).f2)] (by rfl) rfl rfl u1_ ?_
           with_reducible refine (strconv_Itoa.calls ((rd_T75 l0 x12_1).f2) t199 _ ?side1 A12.out).mono ?_
           (case side1 => exact StopsIn.below HG_.out u17_)
           rintro e w19 ⟨rfl, hb⟩
           refine ⟨_, rfl, ?_⟩
           have n0_ := Aside0.mk (Kd.R_below u16_ hb)
           have n1_ := Aside0.mk (blk_below (g := gb198) (o := .cells #[.string ((rd_T75 l0 x12_1).f0), .int .i64 ((rd_T75 l0 x12_1).f1), .int .i64 ((rd_T75 l0 x12_1).f2)] 75 (0, 0)) (by (with_reducible repeat (first | refine blk_drewN ?_ _ | refine blk_drew ?_ | refine blk_alloc ?_ _)); exact BK198.out) hb)
           have n2_ := Aside0.mk (below_step u17_ hb)
           clear HO_3
           clear BK198
           clear HB
           have HO_3 := n0_
           have BK198 := n1_
           have HB := n2_
           clear n0_ n1_ n2_
           (try clear hb)
           (try clear hb2)
           (try clear hk)
           (try clear hi)
           refine hK.out _ _ ⟨(blk_cell BK198.out 0).trans rfl, (blk_cell BK198.out 1).trans rfl, (blk_cell BK198.out 2).trans rfl⟩ (fun hHeld => ?_)
           clear hK K
           refine norm_ (a' := ?_) ?_ ?_
           rotate_left
           ·show Act.put _ (some 32) _ = _
            simp only [Act.put, List.setIfInBounds_toArray, List.set_cons_zero, List.set_cons_succ, i64_w, i32_w]
            rfl
           refine pure_ (i := 7) (N := some 33) (v := ?_) (a' := ?_) #[true, true, true, true, true, true, true, true, false, false, false] rfl rfl (any_of HT_.out u20_) (fun _ _ _ h => h) (Or.inl ⟨by rfl, ?_⟩) ?_ ?_
           rotate_left
           ·intro w'
            go_simp
            with_reducible rfl
           rotate_left
           ·simp only [Act.put, List.setIfInBounds_toArray, List.set_cons_zero, List.set_cons_succ, i64_w, i32_w]
            rfl
           refine one_ (i := 8) (N := some 34) #[true, true, true, true, true, true, true, true, true, false, false] rfl rfl (one_of HT_.out u20_) u31_ (fun K hK => ?_)
           refine value_ (w1 := ?_) (v := ?_) (by rfl) rfl ?_ ?_
           rotate_left 2
           ·go_simp
            constructor
            ·rfl
            ·rfl
           refine hK.out _ _ ⟨(blk_cell (blk_alloc BK198.out _) 0).trans rfl, (blk_cell (blk_alloc BK198.out _) 1).trans rfl, (blk_cell (blk_alloc BK198.out _) 2).trans rfl⟩ (fun hHeld => ?_)
           clear hK K
           refine norm_ (a' := ?_) ?_ ?_
           rotate_left
           ·show Act.put _ (some 34) _ = _
            simp only [Act.put, List.setIfInBounds_toArray, List.set_cons_zero, List.set_cons_succ, i64_w, i32_w]
            rfl
           refine one_ (i := 9) (N := some 35) #[true, true, true, true, true, true, true, true, true, true, false] rfl rfl (one_of HT_.out u20_) u31_ (fun K hK => ?_)
           refine Kd.R_append_step Kd.string (w0 := w) w.heap.size (by rfl) (.tmp 26) (.tmp 34) 61 9 (.string ⟨#[]⟩) 16 rfl Tryd.underlying61 info9 rfl u31_ u44_ u3 x3_1 ((((rd_T75 l0 x12_1).f0) ++ (⟨#[58, 116, 101, 120, 116, 58]⟩ : ByteArray)) ++ t199) [.string ((((rd_T75 l0 x12_1).f0) ++ (⟨#[58, 116, 101, 120, 116, 58]⟩ : ByteArray)) ++ t199)] (fun _ => True) (fun _ => False) rfl rfl ?aP (fun _ hk => hk.elim) ?aF ?aO ?aB ?aS ?aL ?_
           (case aP => exact rfl)
           (case aB => exact u17_)
           (case aF => exact (fun _ _ => trivial))
           (case aO => exact u16_)
           (case aS => exact (below_size u17_))
           (case aL => have := LMc14.out; omega)
           intro v201 w20 ho hb hg hat
           rw [← Ny200.out] at ho
           have n0_ := Aside0.mk (blk_grown (g := gb198) (o := .cells #[.string ((rd_T75 l0 x12_1).f0), .int .i64 ((rd_T75 l0 x12_1).f1), .int .i64 ((rd_T75 l0 x12_1).f2)] 75 (0, 0)) (by (with_reducible repeat (first | refine blk_drewN ?_ _ | refine blk_drew ?_ | refine blk_alloc ?_ _)); exact BK198.out) hg (Kd.R_ne HO_3.out BK198.out u31_))
           have n1_ := Aside0.mk (hb)
           have n2_ := Aside0.mk (ho)
           clear BK198
           clear HB
           clear HO_3
           have BK198 := n0_
           have HB := n1_
           have HO202 := n2_
           clear n0_ n1_ n2_
           clear ho hb hg hat
           refine hK.out _ _ ⟨(blk_cell BK198.out 0).trans rfl, (blk_cell BK198.out 1).trans rfl, (blk_cell BK198.out 2).trans rfl⟩ (fun hHeld => ?_)
           clear hK K
           refine norm_ (a' := ?_) ?_ ?_
           rotate_left
           ·show Act.put _ (some 35) _ = _
            simp only [Act.put, List.setIfInBounds_toArray, List.set_cons_zero, List.set_cons_succ, i64_w, i32_w]
            rfl
           refine pure_ (i := 10) (N := some 3) (v := ?_) (a' := ?_) #[true, true, true, true, true, true, true, true, true, true, true] rfl rfl (any_of HT_.out u20_) (fun _ _ _ h => h) (Or.inl ⟨by rfl, ?_⟩) ?_ ?_
           rotate_left
           ·intro w'
            go_simp
            with_reducible rfl
           rotate_left
           ·simp only [Act.put, List.setIfInBounds_toArray, List.set_cons_zero, List.set_cons_succ, i64_w, i32_w]
            rfl
           refine done_ (done_of HT_.out u20_) ?_
           try go_wp2
           go_roundg k1
           case measure => have := HK1.out; omega
           case rel => exact ⟨(y200), (wrap64 (x12_1 + 1)), u10_, H', ⟨u48_⟩, ⟨by (with_reducible repeat (first | apply Kd.R_alloc | apply Kd.R_drewN | apply Kd.R_drew)); exact HO202.out⟩, ⟨u17_⟩⟩
          ·rw [if_neg c14] at H
           exact absurd H u43_
         ·rw [if_neg c13] at H
          exact absurd H u43_
        ·rw [if_neg c11] at H
         exact absurd H u43_
       ·rw [if_neg c10] at H
        have c10b0 : (((rd_T75 l0 x12_1).f1) == 1) = false := beq_eq_false_iff_ne.mpr c10
        have c10b1 : (((rd_T75 l0 x12_1).f1) != 1) = true := bne_iff_ne.mpr c10
        by_cases c21 : ((rd_T75 l0 x12_1).f1) = 2
        ·rw [if_pos c21] at H
         have c21b0 : (((rd_T75 l0 x12_1).f1) == 2) = true := beq_iff_eq.mpr c21
         have c21b1 : (((rd_T75 l0 x12_1).f1) != 2) = false := bne_eq_false_iff_eq.mpr c21
         clear c21
         by_cases c22 : ((rd_T75 l0 x12_1).f0).size + 4 ≤ 9223372036854775807
         ·rw [if_pos c22] at H
          have c22b0 := eq_true c22
          have c22b1 : decide (((rd_T75 l0 x12_1).f0).size + 4 ≤ 9223372036854775807) = true := decide_eq_true c22
          try have c22b2 : (9223372036854775807 < ((rd_T75 l0 x12_1).f0).size + 4) = False := eq_false (Nat.not_lt.2 c22)
          by_cases c23 : x3_1.length < 8796093022208
          ·rw [if_pos c23] at H
           have LMc23 := Aside0.mk c23
           clear c23
           obtain ⟨y203, hy203⟩ : ∃ y_ : List ByteArray, y_ = (x3_1 ++ [((rd_T75 l0 x12_1).f0) ++ (⟨#[58, 110, 117, 109]⟩ : ByteArray)]) := ⟨_, rfl⟩
           replace H : (impl_FieldsPut.l0 k1 y203 l0 (l0.length : Int) (wrap64 (x12_1 + 1))) = some r := by first | (rw [hy203]; with_reducible exact H) | (have H2_ := (Option.bind_some _ _).symm.trans H; rw [hy203]; with_reducible exact H2_) | (have H2_ := (Option.bind_some _ _).symm.trans H; with_reducible exact H2_) | with_reducible exact H | (rw [hy203]; exact H) | exact H
           have Ny203 := Aside0.mk hy203
           clear hy203
           have H' := Aside0.mk H
           clear H
           have p197 : 0 ≤ (x12_1 : Int) := of_decide_eq_true u3_
           have q197 : x12_1 < (l0.length : Int) := of_decide_eq_true u3_
           obtain ⟨ad197, e197, hx197_0, hx197_1, hx197_2⟩ := at_T75 HR0.out x12_1 p197 q197
           cases e197
           replace hx197_0 := (HB.out.cell (World.block_lt_of_cell? w _ hx197_0)).trans hx197_0
           replace hx197_1 := (HB.out.cell (World.block_lt_of_cell? w _ hx197_1)).trans hx197_1
           replace hx197_2 := (HB.out.cell (World.block_lt_of_cell? w _ hx197_2)).trans hx197_2
           replace p197 := eq_true p197
           replace q197 := eq_true q197
           go_wp2_with (first | ((with_reducible refine gate_dst (N := 5) rfl ?_); refine box_event ?hg (N := 5) ?hd (cs := #[.string (⟨#[]⟩ : ByteArray), .int .i64 0, .int .i64 0]) (t := 75) ?hr ?_; (case hd => rfl); (case hg => rfl); (case hr => first | (go_simp; done) | (go_simp; rfl)); intro gb198 hg w24 hbox hb; have n0_ := Aside0.mk (Kd.R_below u16_ hb); have n1_ := Aside0.mk (below_step u0_ hb); have n2_ := Aside0.mk (hbox); have n3_ := Aside0.mk ((by rw [hg]; exact (below_size u0_) : w.heap.size ≤ gb198)); have n4_ := n3_; clear HO_3; clear HB; have HO_3 := n0_; have HB := n1_; have BK198 := n2_; have GW198 := n3_; have GE198 := n4_; clear n0_ n1_ n2_ n3_ n4_; clear hb hbox hg; have hcz25_0 : w24.cell? ⟨gb198, 0, none⟩ = some (.string (⟨#[]⟩ : ByteArray)) := (blk_cell BK198.out 0).trans rfl; have hcz25_1 : w24.cell? ⟨gb198, 1, none⟩ = some (.int .i64 0) := (blk_cell BK198.out 1).trans rfl; have hcz25_2 : w24.cell? ⟨gb198, 2, none⟩ = some (.int .i64 0) := (blk_cell BK198.out 2).trans rfl; have hfz25_0 := blk_frozen BK198.out 0; have hfz25_1 := blk_frozen BK198.out 1; have hfz25_2 := blk_frozen BK198.out 2) | ((with_reducible refine gate_builtin (b := .append) (xs := #[.tmp 38, .tmp 42]) rfl ?_); at_builtin; refine Kd.R_append Kd.string (w0 := w) w.heap.size rfl (.tmp 38) (.tmp 42) 61 9 (.string ⟨#[]⟩) 16 rfl Tryd.underlying61 info9 rfl u31_ u44_ u3 x3_1 (((rd_T75 l0 x12_1).f0) ++ (⟨#[58, 110, 117, 109]⟩ : ByteArray)) [.string (((rd_T75 l0 x12_1).f0) ++ (⟨#[58, 110, 117, 109]⟩ : ByteArray))] (fun _ => True) (fun _ => False) rfl (by first | (go_simp; done) | (go_simp; rfl)) ?aP (fun _ hk => hk.elim) ?aF ?aO ?aB ?aS ?aL ?_; (case aP => exact rfl); (case aB => exact u17_); (case aF => exact (fun _ _ => trivial)); (case aO => exact u65_); (case aS => exact (below_size u17_)); (case aL => have := LMc23.out; omega); intro v204 w26 ho hb hg hat; rw [← Ny203.out] at ho; have n0_ := Aside0.mk (blk_grown (g := gb198) (o := .cells #[.string ((rd_T75 l0 x12_1).f0), .int .i64 ((rd_T75 l0 x12_1).f1), .int .i64 ((rd_T75 l0 x12_1).f2)] 75 (0, 0)) u21_ hg (Kd.R_ne HO_3.out BK198.out u31_)); have n1_ := Aside0.mk (hb); have n2_ := Aside0.mk (ho); clear BK198; clear HB; clear HO_3; have BK198 := n0_; have HB := n1_; have HO205 := n2_; clear n0_ n1_ n2_; clear ho hb hg hat))
           go_roundg k1
           case measure => have := HK1.out; omega
           case rel => exact ⟨(y203), (wrap64 (x12_1 + 1)), u10_, H', ⟨u48_⟩, ⟨by (with_reducible repeat (first | apply Kd.R_alloc | apply Kd.R_drewN | apply Kd.R_drew)); exact HO205.out⟩, ⟨u17_⟩⟩
          ·rw [if_neg c23] at H
           exact absurd H u43_
         ·rw [if_neg c22] at H
          exact absurd H u43_
        ·rw [if_neg c21] at H
         have c21b0 : (((rd_T75 l0 x12_1).f1) == 2) = false := beq_eq_false_iff_ne.mpr c21
         have c21b1 : (((rd_T75 l0 x12_1).f1) != 2) = true := bne_iff_ne.mpr c21
         by_cases c27 : ((rd_T75 l0 x12_1).f0).size + 4 ≤ 9223372036854775807
         ·rw [if_pos c27] at H
          have c27b0 := eq_true c27
          have c27b1 : decide (((rd_T75 l0 x12_1).f0).size + 4 ≤ 9223372036854775807) = true := decide_eq_true c27
          try have c27b2 : (9223372036854775807 < ((rd_T75 l0 x12_1).f0).size + 4) = False := eq_false (Nat.not_lt.2 c27)
          by_cases c28 : x3_1.length < 8796093022208
          ·rw [if_pos c28] at H
           have LMc28 := Aside0.mk c28
           clear c28
           obtain ⟨y206, hy206⟩ : ∃ y_ : List ByteArray, y_ = (x3_1 ++ [((rd_T75 l0 x12_1).f0) ++ (⟨#[58, 116, 97, 103]⟩ : ByteArray)]) := ⟨_, rfl⟩
           replace H : (impl_FieldsPut.l0 k1 y206 l0 (l0.length : Int) (wrap64 (x12_1 + 1))) = some r := by first | (rw [hy206]; with_reducible exact H) | (have H2_ := (Option.bind_some _ _).symm.trans H; rw [hy206]; with_reducible exact H2_) | (have H2_ := (Option.bind_some _ _).symm.trans H; with_reducible exact H2_) | with_reducible exact H | (rw [hy206]; exact H) | exact H
           have Ny206 := Aside0.mk hy206
           clear hy206
           have H' := Aside0.mk H
           clear H
           have p197 : 0 ≤ (x12_1 : Int) := of_decide_eq_true u3_
           have q197 : x12_1 < (l0.length : Int) := of_decide_eq_true u3_
           obtain ⟨ad197, e197, hx197_0, hx197_1, hx197_2⟩ := at_T75 HR0.out x12_1 p197 q197
           cases e197
           replace hx197_0 := (HB.out.cell (World.block_lt_of_cell? w _ hx197_0)).trans hx197_0
           replace hx197_1 := (HB.out.cell (World.block_lt_of_cell? w _ hx197_1)).trans hx197_1
           replace hx197_2 := (HB.out.cell (World.block_lt_of_cell? w _ hx197_2)).trans hx197_2
           replace p197 := eq_true p197
           replace q197 := eq_true q197
           go_wp2_with (first | ((with_reducible refine gate_dst (N := 5) rfl ?_); refine box_event ?hg (N := 5) ?hd (cs := #[.string (⟨#[]⟩ : ByteArray), .int .i64 0, .int .i64 0]) (t := 75) ?hr ?_; (case hd => rfl); (case hg => rfl); (case hr => first | (go_simp; done) | (go_simp; rfl)); intro gb198 hg w29 hbox hb; have n0_ := Aside0.mk (Kd.R_below u16_ hb); have n1_ := Aside0.mk (below_step u0_ hb); have n2_ := Aside0.mk (hbox); have n3_ := Aside0.mk ((by rw [hg]; exact (below_size u0_) : w.heap.size ≤ gb198)); have n4_ := n3_; clear HO_3; clear HB; have HO_3 := n0_; have HB := n1_; have BK198 := n2_; have GW198 := n3_; have GE198 := n4_; clear n0_ n1_ n2_ n3_ n4_; clear hb hbox hg; have hcz30_0 : w29.cell? ⟨gb198, 0, none⟩ = some (.string (⟨#[]⟩ : ByteArray)) := (blk_cell BK198.out 0).trans rfl; have hcz30_1 : w29.cell? ⟨gb198, 1, none⟩ = some (.int .i64 0) := (blk_cell BK198.out 1).trans rfl; have hcz30_2 : w29.cell? ⟨gb198, 2, none⟩ = some (.int .i64 0) := (blk_cell BK198.out 2).trans rfl; have hfz30_0 := blk_frozen BK198.out 0; have hfz30_1 := blk_frozen BK198.out 1; have hfz30_2 := blk_frozen BK198.out 2) | ((with_reducible refine gate_builtin (b := .append) (xs := #[.tmp 18, .tmp 22]) rfl ?_); at_builtin; refine Kd.R_append Kd.string (w0 := w) w.heap.size rfl (.tmp 18) (.tmp 22) 61 9 (.string ⟨#[]⟩) 16 rfl Tryd.underlying61 info9 rfl u31_ u44_ u3 x3_1 (((rd_T75 l0 x12_1).f0) ++ (⟨#[58, 116, 97, 103]⟩ : ByteArray)) [.string (((rd_T75 l0 x12_1).f0) ++ (⟨#[58, 116, 97, 103]⟩ : ByteArray))] (fun _ => True) (fun _ => False) rfl (by first | (go_simp; done) | (go_simp; rfl)) ?aP (fun _ hk => hk.elim) ?aF ?aO ?aB ?aS ?aL ?_; (case aP => exact rfl); (case aB => exact u17_); (case aF => exact (fun _ _ => trivial)); (case aO => exact u65_); (case aS => exact (below_size u17_)); (case aL => have := LMc28.out; omega); intro v207 w31 ho hb hg hat; rw [← Ny206.out] at ho; have n0_ := Aside0.mk (blk_grown (g := gb198) (o := .cells #[.string ((rd_T75 l0 x12_1).f0), .int .i64 ((rd_T75 l0 x12_1).f1), .int .i64 ((rd_T75 l0 x12_1).f2)] 75 (0, 0)) u21_ hg (Kd.R_ne HO_3.out BK198.out u31_)); have n1_ := Aside0.mk (hb); have n2_ := Aside0.mk (ho); clear BK198; clear HB; clear HO_3; have BK198 := n0_; have HB := n1_; have HO208 := n2_; clear n0_ n1_ n2_; clear ho hb hg hat))
           go_roundg k1
           case measure => have := HK1.out; omega
           case rel => exact ⟨(y206), (wrap64 (x12_1 + 1)), u10_, H', ⟨u48_⟩, ⟨by (with_reducible repeat (first | apply Kd.R_alloc | apply Kd.R_drewN | apply Kd.R_drew)); exact HO208.out⟩, ⟨u17_⟩⟩
          ·rw [if_neg c28] at H
           exact absurd H u43_
         ·rw [if_neg c27] at H
          exact absurd H u43_
      ·rw [if_neg c9] at H
       exact absurd H u43_
     ·rw [if_neg c8] at H
      exact absurd H u43_
    ·rw [if_neg c7] at H
     have c7b0 : decide (x12_1 < (l0.length : Int)) = false := decide_eq_false c7
     clear c7
     replace H := Option.bind_eq_some_iff.mp H
     obtain ⟨t196, A320, H⟩ := H
     replace H : (some t196) = some r := H
     have A32 := Aside0.mk A320
     clear A320
     obtain rfl := Option.some.inj H
     obtain ⟨Ao33, co33, eo33⟩ := Kd.R_slice HO_3.out
     subst eo33
     go_wp2_with (first | ((with_reducible refine gate_callee (f := 49) rfl ?_); refine goesL_ (some 46) rfl rfl Tryd.func49 u20_ rfl #[.slice Ao33 x3_1.length co33, .string (⟨#[32]⟩ : ByteArray)] rfl u1_ ?_; (with_reducible refine (strings_Join.calls _ _ x3_1 (⟨#[32]⟩ : ByteArray) t196 _ ?side1 ?side2 A32.out).mono ?_); (case side1 => repeat (first | exact (Kd.R_reads' HO_3.out).2.2 | (with_reducible refine Kd.C_alloc ?_ _) | (with_reducible refine Kd.C_drewN ?_ _) | (with_reducible refine Kd.C_drew ?_))); (case side2 => exact (Kd.R_reads' HO_3.out).2.1); rintro e w34 ⟨rfl, hb⟩; refine ⟨_, rfl, ?_⟩; have n0_ := Aside0.mk (Kd.R_below u16_ hb); have n1_ := Aside0.mk (below_step u0_ hb); clear HO_3; clear HB; have HO_3 := n0_; have HB := n1_; clear n0_ n1_; (try clear hb); (try clear hb2); (try clear hk); (try clear hi)))
     go_ret
     exact ⟨u4_, u0_⟩
 ·replace c3 := Bool.eq_false_iff.mpr c3
  subst c3
  have H1 : (some (⟨#[]⟩ : ByteArray)) = some r := by rw [if_neg (show ¬ (false = true) by decide)] at H; exact H
  clear H
  have H := H1
  clear H1
  obtain rfl := Option.some.inj H
  go_enter Tryd.func30, Tryd.ntmps30
  go_wp2_with (first | ((with_reducible refine gate_callee (f := 28) rfl ?_); refine goesL_ (some 7) rfl rfl Tryd.func28 u20_ rfl #[.slice A0 l0.length c0] rfl u1_ ?_; (with_reducible refine (impl_FieldsOk.calls k _ _ l0 false _ ?side1 ?side2 A2.out).mono ?_); (case side1 => repeat (first | exact HR0.out | (with_reducible refine Kd.C_alloc ?_ _) | (with_reducible refine Kd.C_drewN ?_ _) | (with_reducible refine Kd.C_drew ?_))); (case side2 => exact HC0.out); rintro e w35 ⟨rfl, hb⟩; refine ⟨_, rfl, ?_⟩; have n0_ := Aside0.mk (below_step u0_ hb); clear HB; have HB := n0_; clear n0_; (try clear hb); (try clear hb2); (try clear hk); (try clear hi)))
  go_ret
  exact ⟨u4_, u0_⟩

/-! ### strings_Split: function 44 -/
def strings_Split.f (a0 a1 : ByteArray) : Option (List ByteArray) := if a0.size < 4294967281 ∧ 1 ≤ a1.size then some (Lib.splitB a1 0 (Lib.countB a0 a1) a0) else none
theorem strings_Split.calls (a0 a1 : ByteArray) (r : List ByteArray) (w : World) (hG : StopsIn w) (h : strings_Split.f a0 a1 = some r) :
  Calls Tryd.prog 44 #[.string a0, .string a1] w fun e w' => ∃ v0_ : Value, e = .returned (v0_) ∧ Kd.R Kd.string 9 w' w.heap.size (fun _ => True) v0_ r ∧ Below w.heap.size w w' := by
 unfold strings_Split.f at h
 by_cases hs : a0.size < 4294967281 ∧ 1 ≤ a1.size
 case neg => rw [if_neg hs] at h; exact absurd h u43_
 rw [if_pos hs] at h
 have h := Option.some.inj h
 obtain ⟨m, hm⟩ := hG.max
 have hle := Lib.countB_le a1 hs.2 a0.size a0 (Nat.le_refl _)
 have hlen := Lib.splitB_all a1 hs.2 0 _ a0 rfl
 rw [h] at hlen
 refine (Go.Proofs.Tryd.strings_Split a0 a1 m w hs.1 hm hs.2).mono ?_
 rintro e w' ⟨rfl, rfl⟩
 rw [h]
 refine ⟨_, rfl, ?_, below_alloc (Below.refl _ _) _⟩
 have hh : (w.alloc (.cells (r.map Value.string).toArray 9)).heap[w.heap.size]? = some (.cells (r.map Value.string).toArray 9 (0, 0)) := by
  unfold World.alloc
  simp
 have hx := row_mk (enc := Value.string) (h1 := fun _ => rfl) (ok := fun _ => True) (xs := r) (cap := Lib.countB a0 a1 + 1) (Nat.le_refl _) hh u44_ (by have : maxLen = 9223372036854775807 := rfl; omega) (by simp [hlen]) trivial (fun j x hj => by simp [hj])
 rw [hlen] at hx
 exact hx

/-! ### strconv_Atoi: function 55 -/
/-- The number that Atoi hands back, and whether it tells an error beside it. -/
def strconv_Atoi.f (a0 : ByteArray) : Option (Int × Option Int) := if a0.size ≤ 140737488355328 then some (match Lib.atoiAll a0.data.toList with
 | .ok n => (n, none)
 | .range => (Lib.atoiSat a0.data.toList, some 0)
 | _ => (0, some 0)) else none
theorem strconv_Atoi.calls (a0 : ByteArray) (r1 : Int) (r2 : Option Int) (w : World) (hG : StopsIn w) (h : strconv_Atoi.f a0 = some (r1, r2)) :
  Calls Tryd.prog 55 #[.string a0] w fun e w' => (∃ ev, e = .returned (.tuple #[.int .i64 r1, ev])) ∧ Below w.heap.size w w' := by
 unfold strconv_Atoi.f at h
 by_cases hs : a0.size ≤ 140737488355328
 case neg => rw [if_neg hs] at h; exact absurd h u43_
 rw [if_pos hs] at h
 have h := Option.some.inj h
 obtain ⟨⟨u1, v1, h1⟩, ⟨u2, v2, h2⟩⟩ := hG.errs
 rcases hA : Lib.atoiAll a0.data.toList with n | _ | _
 ·rw [hA] at h
  obtain ⟨rfl, rfl⟩ := Prod.mk.inj h
  refine (Go.Proofs.Tryd.strconv_Atoi_ok a0 u44_ n hA w).mono ?_
  rintro e w' ⟨rfl, h1⟩
  rcases h1 with rfl | ⟨t, rfl⟩
  ·exact ⟨⟨_, rfl⟩, Below.refl _ _⟩
  ·exact ⟨⟨_, rfl⟩, bytes_below (Below.refl _ _) (Nat.le_refl _) _ _⟩
 ·rw [hA] at h
  obtain ⟨rfl, rfl⟩ := Prod.mk.inj h
  refine (Go.Proofs.Tryd.strconv_Atoi_syntax_var a0 u44_ hA u1 v1 w h1).mono ?_
  rintro e w' ⟨N, rfl, _, _, hb⟩
  exact ⟨⟨_, rfl⟩, hb⟩
 ·rw [hA] at h
  obtain ⟨rfl, rfl⟩ := Prod.mk.inj h
  refine (Go.Proofs.Tryd.strconv_Atoi_range_var a0 u44_ hA u2 v2 w h2).mono ?_
  rintro e w' ⟨N, rfl, _, _, hb⟩
  exact ⟨⟨_, rfl⟩, hb⟩

/-! ### impl_FieldsGet: function 21 -/
def impl_FieldsGet.l0 : Nat → ByteArray → List (S75) → List ByteArray → Int → Int → Option ((List (S75)) × Bool)
 | 0, _, _, _, _, _ => none
 | k + 1, x0, x4, x11, x12, x13 => if x13 < x12 then (if 0 ≤ x13 then (if x13 < (x11.length : Int) then ((strings_Split.f (rdOf ByteArray.empty x11 x13) (⟨#[58]⟩ : ByteArray)).bind fun t216 => ((some (([(⟨#[]⟩ : ByteArray), (⟨#[]⟩ : ByteArray)] : List ByteArray) : List ByteArray)).bind fun y219 => (if t216.length + y219.length < 8796093022208 then ((some (t216 ++ y219 : List ByteArray)).bind fun y222 => (if 0 < (y222.length : Int) then (if 1 < (y222.length : Int) then (if (rdOf ByteArray.empty y222 1).toList = ([116, 101, 120, 116] : List UInt8) then (if 2 < (y222.length : Int) then ((strconv_Atoi.f (rdOf ByteArray.empty y222 2)).bind fun bt229 => (if x4.length < 4398046511104 then (impl_FieldsGet.l0 k x0 (x4 ++ [(⟨rdOf ByteArray.empty y222 0, 1, bt229.1⟩ : S75)]) x11 x12 (wrap64 (x13 + 1))) else (none))) else (none)) else (if (rdOf ByteArray.empty y222 1).toList = ([110, 117, 109] : List UInt8) then (if x4.length < 4398046511104 then (impl_FieldsGet.l0 k x0 (x4 ++ [(⟨rdOf ByteArray.empty y222 0, 2, 0⟩ : S75)]) x11 x12 (wrap64 (x13 + 1))) else (none)) else (if (rdOf ByteArray.empty y222 1).toList = ([116, 97, 103] : List UInt8) then (if x4.length < 4398046511104 then (impl_FieldsGet.l0 k x0 (x4 ++ [(⟨rdOf ByteArray.empty y222 0, 3, 0⟩ : S75)]) x11 x12 (wrap64 (x13 + 1))) else (none)) else (if x4.length < 4398046511104 then (impl_FieldsGet.l0 k x0 (x4 ++ [(⟨rdOf ByteArray.empty y222 0, 0, 0⟩ : S75)]) x11 x12 (wrap64 (x13 + 1))) else (none))))) else (none)) else (none))) else (none)))) else (none)) else (none)) else ((impl_FieldsOk.f k x4).bind fun t243 => (if t243 = true then ((impl_FieldsPut.f k x4).bind fun t244 => (if t244.toList = x0.toList then (some (x4, true)) else (some ((([] : List (S75))), false)))) else (some ((([] : List (S75))), false))))
def impl_FieldsGet.f (k : Nat) (a0 : ByteArray) : Option ((List (S75)) × Bool) := (strings_Split.f a0 (⟨#[32]⟩ : ByteArray)).bind fun t212 => (impl_FieldsGet.l0 k a0 (([] : List (S75))) t212 (t212.length : Int) 0)
theorem impl_FieldsGet.mono_l : ∀ k, (∀ y0 y1 y2 y3 y4, LeO (impl_FieldsGet.l0 k y0 y1 y2 y3 y4) (impl_FieldsGet.l0 (k + 1) y0 y1 y2 y3 y4))
 | 0 => fun _ _ _ _ _ r h => by simp [impl_FieldsGet.l0] at h
 | k + 1 => by
  have ih0 := impl_FieldsGet.mono_l k
  ·intro y0 y1 y2 y3 y4
   unfold impl_FieldsGet.l0
   repeat' first
   | (with_reducible exact ih0 _ _ _ _ _)
   | (with_reducible exact impl_FieldsOk.mono _ _)
   | (with_reducible exact impl_FieldsPut.mono _ _)
   | (with_reducible exact LeO.refl _)
   | (with_reducible exact LeO.none _)
   | (with_reducible refine LeO.ite ?_ ?_)
   | (with_reducible refine LeO.bind ?_ (fun _ => ?_))
   | exact ih0 _ _ _ _ _
   | exact impl_FieldsOk.mono _ _
   | exact impl_FieldsPut.mono _ _
   | exact LeO.none _
   | refine LeO.ite ?_ ?_
   | refine LeO.bind ?_ (fun _ => ?_)
theorem impl_FieldsGet.mono : ∀ a0 k, LeO (impl_FieldsGet.f k a0) (impl_FieldsGet.f (k + 1) a0) := by
 intro a0 k
 have ih0 := impl_FieldsGet.mono_l k
 unfold impl_FieldsGet.f
 repeat' first
   | (with_reducible exact ih0 _ _ _ _ _)
   | (with_reducible exact impl_FieldsOk.mono _ _)
   | (with_reducible exact impl_FieldsPut.mono _ _)
   | (with_reducible exact LeO.refl _)
   | (with_reducible exact LeO.none _)
   | (with_reducible refine LeO.ite ?_ ?_)
   | (with_reducible refine LeO.bind ?_ (fun _ => ?_))
   | exact ih0 _ _ _ _ _
   | exact impl_FieldsOk.mono _ _
   | exact impl_FieldsPut.mono _ _
   | exact LeO.none _
   | refine LeO.ite ?_ ?_
   | refine LeO.bind ?_ (fun _ => ?_)
set_option maxHeartbeats 8000000 in
set_option maxRecDepth 100000 in
theorem impl_FieldsGet.calls (k : Nat) (a0 : ByteArray) (r1 : List (S75)) (r2 : Bool) (w : World) (hG : StopsIn w) (h : impl_FieldsGet.f k a0 = some (r1, r2)) :
  Calls Tryd.prog 21 #[.string a0] w fun e w' => ∃ v0_ : Value, e = .returned (.tuple #[v0_, .bool r2]) ∧ Kd.R k75 75 w' w.heap.size (fun _ => True) v0_ r1 ∧ Below w.heap.size w w' := by
 have hu75 := Tryd.underlying75
 have HG_ := Aside0.mk hG
 clear hG
 have HB := Aside0.mk (Below.refl w.heap.size w)
 have H : ((strings_Split.f a0 (⟨#[32]⟩ : ByteArray)).bind fun t212 => (impl_FieldsGet.l0 k a0 (([] : List (S75))) t212 (t212.length : Int) 0)) = some (r1, r2) := h
 clear h
 obtain ⟨y209, hy209⟩ : ∃ y_ : List (S75), y_ = (([] : List (S75))) := ⟨_, rfl⟩
 replace H : ((strings_Split.f a0 (⟨#[32]⟩ : ByteArray)).bind fun t212 => (impl_FieldsGet.l0 k a0 y209 t212 (t212.length : Int) 0)) = some (r1, r2) := by first | (rw [hy209]; with_reducible exact H) | (have H2_ := (Option.bind_some _ _).symm.trans H; rw [hy209]; with_reducible exact H2_) | (have H2_ := (Option.bind_some _ _).symm.trans H; with_reducible exact H2_) | with_reducible exact H | (rw [hy209]; exact H) | exact H
 have Ny209 := Aside0.mk hy209
 clear hy209
 replace H := Option.bind_eq_some_iff.mp H
 obtain ⟨t212, A20, H⟩ := H
 replace H : (impl_FieldsGet.l0 k a0 y209 t212 (t212.length : Int) 0) = some (r1, r2) := H
 have A2 := Aside0.mk A20
 clear A20
 have H' := Aside0.mk H
 clear H
 go_enter Tryd.func21, Tryd.ntmps21
 go_wp2_with (first | ((with_reducible refine gate_dst (N := 9) rfl ?_); refine Kd.R_lit k75 _ 75 ?hg (N := 9) ?hd (xs := ([] : List (S75))) (inner := []) (ok := fun _ => True) (okp := fun _ => True) ?hr ?hp (fun _ hk => hk) trivial (Below.refl _ _) (Nat.le_refl _) u43_ ?_; (case hd => rfl); (case hg => rfl); (case hr => first | (go_simp; done) | (go_simp; rfl)); (case hp => exact (Reps.none _ _)); intro v210 w3 ho4 hb hg_ hnew_; clear hg_ hnew_; (first | rw [← Ny209.out] at ho4 | (simp only [Int.reduceToNat] at ho4; rw [← Ny209.out] at ho4)); have n0_ := Aside0.mk (Kd.R_lower ho4 (below_size u0_)); have n1_ := Aside0.mk (below_step u0_ hb); clear HB; have HO211 := n0_; have HB := n1_; clear n0_ n1_; clear hb ho4) | ((with_reducible refine gate_callee (f := 44) rfl ?_); refine goesL_ (some 11) rfl rfl Tryd.func44 u20_ rfl #[.string a0, .string (⟨#[32]⟩ : ByteArray)] rfl u1_ ?_; (with_reducible refine (strings_Split.calls a0 (⟨#[32]⟩ : ByteArray) t212 _ ?side1 A2.out).mono ?_); (case side1 => exact StopsIn.below HG_.out u0_); rintro e w5 ⟨v213, rfl, ho0, hb⟩; refine ⟨_, rfl, ?_⟩; have n0_ := Aside0.mk (Kd.R_below (by (with_reducible repeat (first | apply Kd.R_alloc | apply Kd.R_drewN | apply Kd.R_drew)); exact HO211.out) hb); have n1_ := Aside0.mk (Kd.R_lower ho0 (below_size u0_)); have n2_ := Aside0.mk (below_step u0_ hb); clear HO211; clear HB; have HO211 := n0_; have HO214 := n1_; have HB := n2_; clear n0_ n1_ n2_; (try clear hb); (try clear hb2); (try clear hk); (try clear hi); (try clear ho0); obtain ⟨Ao6, co6, eo6⟩ := Kd.R_slice HO214.out; subst eo6))
 go_loopg [4, 13] k (fun kq v4 v13 w' => ∃ (x4_1 : List (S75)) (x13_1 : Int), v13 = .int .i64 x13_1 ∧ Aside0 (impl_FieldsGet.l0 kq a0 x4_1 t212 (t212.length : Int) x13_1 = some (r1, r2)) ∧ Aside0 (kq ≤ k) ∧ Aside0 (Kd.R k75 75 w' w.heap.size (fun _ => True) v4 x4_1) ∧ Aside0 (Kd.R Kd.string 9 w' w.heap.size (fun _ => True) (.slice Ao6 t212.length co6) t212) ∧ Aside0 (Below w.heap.size w w'))
 case atStart => exact ⟨(y209), (0), u10_, H', ⟨Nat.le_refl _⟩, ⟨by (with_reducible repeat (first | apply Kd.R_alloc | apply Kd.R_drewN | apply Kd.R_drew)); exact HO211.out⟩, ⟨by (with_reducible repeat (first | apply Kd.R_alloc | apply Kd.R_drewN | apply Kd.R_drew)); exact HO214.out⟩, ⟨u0_⟩⟩
 case round =>
  clear H'
  try clear c2
  try clear p2
  try clear c4
  obtain ⟨x4_1, x13_1, rfl, HA, HK1, HO_4, HO_11, HB⟩ := hrel
  cases gk with
  | zero => exact absurd HA.out (by simp [impl_FieldsGet.l0])
  | succ k1 =>
   have H := HA.out
   clear HA
   simp only [impl_FieldsGet.l0] at H
   by_cases c7 : x13_1 < (t212.length : Int)
   ·rw [if_pos c7] at H
    have c7b0 : decide (x13_1 < (t212.length : Int)) = true := decide_eq_true c7
    clear c7
    by_cases c8 : 0 ≤ x13_1
    ·rw [if_pos c8] at H
     have c8b0 : decide (0 ≤ x13_1) = true := decide_eq_true c8
     clear c8
     by_cases c9 : x13_1 < (t212.length : Int)
     ·rw [if_pos c9] at H
      have c9b0 : decide (x13_1 < (t212.length : Int)) = true := decide_eq_true c9
      clear c9
      replace H := Option.bind_eq_some_iff.mp H
      obtain ⟨t216, A100, H⟩ := H
      replace H : ((some (([(⟨#[]⟩ : ByteArray), (⟨#[]⟩ : ByteArray)] : List ByteArray) : List ByteArray)).bind fun y219 => (if t216.length + y219.length < 8796093022208 then ((some (t216 ++ y219 : List ByteArray)).bind fun y222 => (if 0 < (y222.length : Int) then (if 1 < (y222.length : Int) then (if (rdOf ByteArray.empty y222 1).toList = ([116, 101, 120, 116] : List UInt8) then (if 2 < (y222.length : Int) then ((strconv_Atoi.f (rdOf ByteArray.empty y222 2)).bind fun bt229 => (if x4_1.length < 4398046511104 then (impl_FieldsGet.l0 k1 a0 (x4_1 ++ [(⟨rdOf ByteArray.empty y222 0, 1, bt229.1⟩ : S75)]) t212 (t212.length : Int) (wrap64 (x13_1 + 1))) else (none))) else (none)) else (if (rdOf ByteArray.empty y222 1).toList = ([110, 117, 109] : List UInt8) then (if x4_1.length < 4398046511104 then (impl_FieldsGet.l0 k1 a0 (x4_1 ++ [(⟨rdOf ByteArray.empty y222 0, 2, 0⟩ : S75)]) t212 (t212.length : Int) (wrap64 (x13_1 + 1))) else (none)) else (if (rdOf ByteArray.empty y222 1).toList = ([116, 97, 103] : List UInt8) then (if x4_1.length < 4398046511104 then (impl_FieldsGet.l0 k1 a0 (x4_1 ++ [(⟨rdOf ByteArray.empty y222 0, 3, 0⟩ : S75)]) t212 (t212.length : Int) (wrap64 (x13_1 + 1))) else (none)) else (if x4_1.length < 4398046511104 then (impl_FieldsGet.l0 k1 a0 (x4_1 ++ [(⟨rdOf ByteArray.empty y222 0, 0, 0⟩ : S75)]) t212 (t212.length : Int) (wrap64 (x13_1 + 1))) else (none))))) else (none)) else (none))) else (none))) = some (r1, r2) := H
      have A10 := Aside0.mk A100
      clear A100
      obtain ⟨y219, hy219⟩ : ∃ y_ : List ByteArray, y_ = (([(⟨#[]⟩ : ByteArray), (⟨#[]⟩ : ByteArray)] : List ByteArray)) := ⟨_, rfl⟩
      replace H : (if t216.length + y219.length < 8796093022208 then ((some (t216 ++ y219 : List ByteArray)).bind fun y222 => (if 0 < (y222.length : Int) then (if 1 < (y222.length : Int) then (if (rdOf ByteArray.empty y222 1).toList = ([116, 101, 120, 116] : List UInt8) then (if 2 < (y222.length : Int) then ((strconv_Atoi.f (rdOf ByteArray.empty y222 2)).bind fun bt229 => (if x4_1.length < 4398046511104 then (impl_FieldsGet.l0 k1 a0 (x4_1 ++ [(⟨rdOf ByteArray.empty y222 0, 1, bt229.1⟩ : S75)]) t212 (t212.length : Int) (wrap64 (x13_1 + 1))) else (none))) else (none)) else (if (rdOf ByteArray.empty y222 1).toList = ([110, 117, 109] : List UInt8) then (if x4_1.length < 4398046511104 then (impl_FieldsGet.l0 k1 a0 (x4_1 ++ [(⟨rdOf ByteArray.empty y222 0, 2, 0⟩ : S75)]) t212 (t212.length : Int) (wrap64 (x13_1 + 1))) else (none)) else (if (rdOf ByteArray.empty y222 1).toList = ([116, 97, 103] : List UInt8) then (if x4_1.length < 4398046511104 then (impl_FieldsGet.l0 k1 a0 (x4_1 ++ [(⟨rdOf ByteArray.empty y222 0, 3, 0⟩ : S75)]) t212 (t212.length : Int) (wrap64 (x13_1 + 1))) else (none)) else (if x4_1.length < 4398046511104 then (impl_FieldsGet.l0 k1 a0 (x4_1 ++ [(⟨rdOf ByteArray.empty y222 0, 0, 0⟩ : S75)]) t212 (t212.length : Int) (wrap64 (x13_1 + 1))) else (none))))) else (none)) else (none))) else (none)) = some (r1, r2) := by first | (rw [hy219]; with_reducible exact H) | (have H2_ := (Option.bind_some _ _).symm.trans H; rw [hy219]; with_reducible exact H2_) | (have H2_ := (Option.bind_some _ _).symm.trans H; with_reducible exact H2_) | with_reducible exact H | (rw [hy219]; exact H) | exact H
      have Ny219 := Aside0.mk hy219
      clear hy219
      by_cases c11 : t216.length + y219.length < 8796093022208
      ·rw [if_pos c11] at H
       have LMc11 := Aside0.mk c11
       clear c11
       obtain ⟨y222, hy222⟩ : ∃ y_ : List ByteArray, y_ = (t216 ++ y219) := ⟨_, rfl⟩
       replace H : (if 0 < (y222.length : Int) then (if 1 < (y222.length : Int) then (if (rdOf ByteArray.empty y222 1).toList = ([116, 101, 120, 116] : List UInt8) then (if 2 < (y222.length : Int) then ((strconv_Atoi.f (rdOf ByteArray.empty y222 2)).bind fun bt229 => (if x4_1.length < 4398046511104 then (impl_FieldsGet.l0 k1 a0 (x4_1 ++ [(⟨rdOf ByteArray.empty y222 0, 1, bt229.1⟩ : S75)]) t212 (t212.length : Int) (wrap64 (x13_1 + 1))) else (none))) else (none)) else (if (rdOf ByteArray.empty y222 1).toList = ([110, 117, 109] : List UInt8) then (if x4_1.length < 4398046511104 then (impl_FieldsGet.l0 k1 a0 (x4_1 ++ [(⟨rdOf ByteArray.empty y222 0, 2, 0⟩ : S75)]) t212 (t212.length : Int) (wrap64 (x13_1 + 1))) else (none)) else (if (rdOf ByteArray.empty y222 1).toList = ([116, 97, 103] : List UInt8) then (if x4_1.length < 4398046511104 then (impl_FieldsGet.l0 k1 a0 (x4_1 ++ [(⟨rdOf ByteArray.empty y222 0, 3, 0⟩ : S75)]) t212 (t212.length : Int) (wrap64 (x13_1 + 1))) else (none)) else (if x4_1.length < 4398046511104 then (impl_FieldsGet.l0 k1 a0 (x4_1 ++ [(⟨rdOf ByteArray.empty y222 0, 0, 0⟩ : S75)]) t212 (t212.length : Int) (wrap64 (x13_1 + 1))) else (none))))) else (none)) else (none)) = some (r1, r2) := by first | (rw [hy222]; with_reducible exact H) | (have H2_ := (Option.bind_some _ _).symm.trans H; rw [hy222]; with_reducible exact H2_) | (have H2_ := (Option.bind_some _ _).symm.trans H; with_reducible exact H2_) | with_reducible exact H | (rw [hy222]; exact H) | exact H
       have Ny222 := Aside0.mk hy222
       clear hy222
       by_cases c12 : 0 < (y222.length : Int)
       ·rw [if_pos c12] at H
        have c12b0 : decide (0 < (y222.length : Int)) = true := decide_eq_true c12
        have c12b1 : decide (0 < y222.length) = true := decide_eq_true u44_
        clear c12
        by_cases c13 : 1 < (y222.length : Int)
        ·rw [if_pos c13] at H
         have c13b0 : decide (1 < (y222.length : Int)) = true := decide_eq_true c13
         have c13b1 : decide (1 < y222.length) = true := decide_eq_true u44_
         clear c13
         by_cases c14 : (rdOf ByteArray.empty y222 1).toList = ([116, 101, 120, 116] : List UInt8)
         ·rw [if_pos c14] at H
          have c14b0 : ((rdOf ByteArray.empty y222 1).toList == ([116, 101, 120, 116] : List UInt8)) = true := beq_iff_eq.mpr c14
          have c14b1 : ((rdOf ByteArray.empty y222 1).toList != ([116, 101, 120, 116] : List UInt8)) = false := bne_eq_false_iff_eq.mpr c14
          clear c14
          by_cases c15 : 2 < (y222.length : Int)
          ·rw [if_pos c15] at H
           have c15b0 : decide (2 < (y222.length : Int)) = true := decide_eq_true c15
           have c15b1 : decide (2 < y222.length) = true := decide_eq_true u44_
           clear c15
           replace H := Option.bind_eq_some_iff.mp H
           obtain ⟨⟨t229, t230⟩, A160, H⟩ := H
           replace H : (if x4_1.length < 4398046511104 then (impl_FieldsGet.l0 k1 a0 (x4_1 ++ [(⟨rdOf ByteArray.empty y222 0, 1, t229⟩ : S75)]) t212 (t212.length : Int) (wrap64 (x13_1 + 1))) else (none)) = some (r1, r2) := H
           have A16 := Aside0.mk A160
           clear A160
           by_cases c17 : x4_1.length < 4398046511104
           ·rw [if_pos c17] at H
            have LMc17 := Aside0.mk c17
            clear c17
            obtain ⟨y231, hy231⟩ : ∃ y_ : List (S75), y_ = (x4_1 ++ [(⟨rdOf ByteArray.empty y222 0, 1, t229⟩ : S75)]) := ⟨_, rfl⟩
            replace H : (impl_FieldsGet.l0 k1 a0 y231 t212 (t212.length : Int) (wrap64 (x13_1 + 1))) = some (r1, r2) := by first | (rw [hy231]; with_reducible exact H) | (have H2_ := (Option.bind_some _ _).symm.trans H; rw [hy231]; with_reducible exact H2_) | (have H2_ := (Option.bind_some _ _).symm.trans H; with_reducible exact H2_) | with_reducible exact H | (rw [hy231]; exact H) | exact H
            have Ny231 := Aside0.mk hy231
            clear hy231
            have H' := Aside0.mk H
            clear H
            have p215 : 0 ≤ (x13_1 : Int) := of_decide_eq_true u3_
            have q215 : x13_1 < (t212.length : Int) := of_decide_eq_true u3_
            obtain ⟨ad215, e215, hx215_0⟩ := Kd.at_string (Kd.R_reads' HO_11.out).2.2 x13_1 p215 q215
            cases e215
            replace p215 := eq_true p215
            replace q215 := eq_true q215
            go_wp2_with (first | ((with_reducible refine gate_callee (f := 44) rfl ?_); refine goesL_ (some 18) rfl rfl Tryd.func44 u20_ rfl #[.string (rdOf ByteArray.empty t212 x13_1), .string (⟨#[58]⟩ : ByteArray)] rfl u1_ ?_; (with_reducible refine (strings_Split.calls (rdOf ByteArray.empty t212 x13_1) (⟨#[58]⟩ : ByteArray) t216 _ ?side1 A10.out).mono ?_); (case side1 => exact StopsIn.below HG_.out u0_); rintro e w18 ⟨v217, rfl, ho0, hb⟩; refine ⟨_, rfl, ?_⟩; have n0_ := Aside0.mk (Kd.R_below u7_ hb); have n1_ := Aside0.mk (Kd.R_elder' u9_ (Kd.R_base ho0) hb); have n2_ := Aside0.mk (Kd.R_lower (Kd.R_new' ho0 (Kd.R_lt u9_)) (below_size u0_)); have n3_ := Aside0.mk (below_step u0_ hb); clear HO_4; clear HO_11; clear HB; have HO_4 := n0_; have HO_11 := n1_; have HO218 := n2_; have HB := n3_; clear n0_ n1_ n2_ n3_; (try clear hb); (try clear hb2); (try clear hk); (try clear hi); (try clear ho0)) | ((with_reducible refine gate_dst (N := 19) rfl ?_); refine Kd.R_lit Kd.string _ 9 ?hg (N := 19) ?hd (xs := ([(⟨#[]⟩ : ByteArray), (⟨#[]⟩ : ByteArray)] : List ByteArray)) (inner := [.string (⟨#[]⟩ : ByteArray), .string (⟨#[]⟩ : ByteArray)]) (ok := fun _ => True) (okp := fun _ => True) ?hr ?hp (fun _ hk => hk) trivial (Below.refl _ _) (Nat.le_refl _) u43_ ?_; (case hd => rfl); (case hg => rfl); (case hr => first | (go_simp; done) | (go_simp; rfl)); (case hp => exact (Reps.one (show Kd.M Kd.string _ _ _ (⟨#[]⟩ : ByteArray) [.string (⟨#[]⟩ : ByteArray)] from rfl) (Reps.one (show Kd.M Kd.string _ _ _ (⟨#[]⟩ : ByteArray) [.string (⟨#[]⟩ : ByteArray)] from rfl) (Reps.none _ _)))); intro v220 w19 ho20 hb hg_ hnew_; clear hg_ hnew_; (first | rw [← Ny219.out] at ho20 | (simp only [Int.reduceToNat] at ho20; rw [← Ny219.out] at ho20)); have n0_ := Aside0.mk (Kd.R_below u7_ hb); have n1_ := Aside0.mk (Kd.R_elder' u9_ (Kd.R_base ho20) hb); have n2_ := Aside0.mk (Kd.R_elder' u25_ (Kd.R_base ho20) hb); have n3_ := Aside0.mk (Kd.R_lower (Kd.R_new' (Kd.R_new' ho20 (Kd.R_lt u9_)) (Kd.R_lt u25_)) (below_size u0_)); have n4_ := Aside0.mk (below_step u0_ hb); clear HO_4; clear HO_11; clear HO218; clear HB; have HO_4 := n0_; have HO_11 := n1_; have HO218 := n2_; have HO221 := n3_; have HB := n4_; clear n0_ n1_ n2_ n3_ n4_; clear hb ho20; obtain ⟨Ao22, co22, eo22⟩ := Kd.R_slice HO221.out; subst eo22) | ((with_reducible refine gate_builtin (b := .append) (xs := #[.tmp 18, .tmp 19]) rfl ?_); at_builtin; refine Kd.R_append_rows Kd.string (w0 := w) w.heap.size rfl (.tmp 18) (.tmp 19) 61 9 (.string ⟨#[]⟩) 16 rfl Tryd.underlying61 info9 rfl u31_ u44_ v217 t216 y219 _ _ _ (fun k_ => some k_ ≠ (.slice (some ad215) t212.length co6 : Value).ownBlock ∧ some k_ ≠ (.slice Ao22 y219.length co22 : Value).ownBlock) (fun _ => False) rfl rfl ?aO ?aR (fun _ _ h => h) (fun _ h => h.elim) ?aF ?aB ?aS ?aL ?_; (case aR => repeat (first | exact (Kd.R_reads' HO221.out).2.2 | (with_reducible refine Kd.C_alloc ?_ _) | (with_reducible refine Kd.C_drewN ?_ _) | (with_reducible refine Kd.C_drew ?_))); (case aB => exact u0_); (case aF => exact (fun k_ hk => ⟨Kd.fresh' (Kd.R_lt u9_) k_ hk, Kd.fresh' (Kd.R_lt u33_) k_ hk⟩)); (case aO => exact u45_); (case aS => exact (below_size u0_)); (case aL => have := LMc11.out; omega); intro v223 w21 ho hb hg hat; rw [← Ny222.out] at ho; have n0_ := Aside0.mk (Kd.R_over' u7_ (Kd.R_typed u25_) u31_ hg); have n1_ := Aside0.mk (Kd.R_after (ok := (fun k_ => some k_ ≠ (.slice Ao22 y219.length co22 : Value).ownBlock)) u46_ hg hat); have n2_ := Aside0.mk (Kd.R_after (ok := (fun k_ => some k_ ≠ (.slice (some ad215) t212.length co6 : Value).ownBlock)) u47_ hg hat); have n3_ := Aside0.mk (hb); have n4_ := Aside0.mk (ho); clear HO_4; clear HO_11; clear HO221; clear HB; clear HO218; have HO_4 := n0_; have HO_11 := n1_; have HO221 := n2_; have HB := n3_; have HO224 := n4_; clear n0_ n1_ n2_ n3_ n4_; clear ho hb hg hat; obtain ⟨Ao23, co23, eo23⟩ := Kd.R_slice HO224.out; subst eo23; have p225 : 0 ≤ (0 : Int) := u44_; have q225 : 0 < (y222.length : Int) := of_decide_eq_true u3_; obtain ⟨ad225, e225, hx225_0⟩ := Kd.at_string (Kd.R_reads' HO224.out).2.2 0 p225 q225; cases e225; have qi225 : (0 < y222.length) = True := eq_true u44_; (try rw [show ((0 : Int)).toNat = 0 from rfl] at hx225_0); (try rw [Addr.add_zero'] at hx225_0); replace p225 := eq_true p225; replace q225 := eq_true q225) | ((with_reducible refine gate_dst (N := 8) rfl ?_); refine box_event ?hg (N := 8) ?hd (cs := #[.string (⟨#[]⟩ : ByteArray), .int .i64 0, .int .i64 0]) (t := 75) ?hr ?_; (case hd => rfl); (case hg => rfl); (case hr => first | (go_simp; done) | (go_simp; rfl)); intro gb226 hg w24 hbox hb; have n0_ := Aside0.mk (Kd.R_below (Kd.R_elderB u7_ gb226 (Nat.le_of_eq hg.symm)) hb); have n1_ := Aside0.mk (Kd.R_below u9_ hb); have n2_ := Aside0.mk (Kd.R_below u33_ hb); have n3_ := Aside0.mk (Kd.R_below u59_ hb); have n4_ := Aside0.mk (below_step u0_ hb); have n5_ := Aside0.mk (hbox); have n6_ := Aside0.mk ((by rw [hg]; exact (below_size u0_) : w.heap.size ≤ gb226)); have n7_ := Aside0.mk ((by rw [hg]; exact (below_size u0_) : w.heap.size ≤ gb226)); clear HO_4; clear HO_11; clear HO221; clear HO224; clear HB; have HO_4 := n0_; have HO_11 := n1_; have HO221 := n2_; have HO224 := n3_; have HB := n4_; have BK226 := n5_; have GW226 := n6_; have GE226 := n7_; clear n0_ n1_ n2_ n3_ n4_ n5_ n6_ n7_; clear hb hbox hg; have hcz25_0 : w24.cell? ⟨gb226, 0, none⟩ = some (.string (⟨#[]⟩ : ByteArray)) := (blk_cell BK226.out 0).trans rfl; have hcz25_1 : w24.cell? ⟨gb226, 1, none⟩ = some (.int .i64 0) := (blk_cell BK226.out 1).trans rfl; have hcz25_2 : w24.cell? ⟨gb226, 2, none⟩ = some (.int .i64 0) := (blk_cell BK226.out 2).trans rfl; have hfz25_0 := blk_frozen BK226.out 0; have hfz25_1 := blk_frozen BK226.out 1; have hfz25_2 := blk_frozen BK226.out 2; have p227 : 0 ≤ (1 : Int) := u44_; have q227 : 1 < (y222.length : Int) := of_decide_eq_true u3_; obtain ⟨ad227, e227, hx227_0⟩ := Kd.at_string (Kd.R_reads' HO224.out).2.2 1 p227 q227; obtain rfl : ad225 = ad227 := (by injection e227); (try simp only [show (1 : Int).toNat = 1 from rfl, Nat.reduceMul, Nat.reduceEqDiff, Go.Addr.add, ↓reduceIte] at hx227_0); have qi227 : (1 < y222.length) = True := eq_true u44_; (try rw [show ((1 : Int)).toNat = 1 from rfl] at hx227_0); have hn227_0 : ad225.block ≠ gb226 := u64_; have hn227_1 : ad225.block ≠ gb226 := u64_; have hn227_2 : ad225.block ≠ gb226 := u64_; replace hx227_0 := (cell_far (p := ⟨gb226, 0, none⟩) u54_ (.string (rdOf ByteArray.empty y222 0))).trans hx227_0; replace hx227_0 := (cell_far (p := ⟨gb226, 1, none⟩) u55_ (.int .i64 0)).trans hx227_0; replace hx227_0 := (cell_far (p := ⟨gb226, 2, none⟩) u56_ (.int .i64 0)).trans hx227_0; clear hn227_0; clear hn227_1; clear hn227_2; replace p227 := eq_true p227; replace q227 := eq_true q227; have p228 : 0 ≤ (2 : Int) := u44_; have q228 : 2 < (y222.length : Int) := of_decide_eq_true u3_; obtain ⟨ad228, e228, hx228_0⟩ := Kd.at_string (Kd.R_reads' HO224.out).2.2 2 p228 q228; obtain rfl : ad225 = ad228 := (by injection e228); (try simp only [show (2 : Int).toNat = 2 from rfl, Nat.reduceMul, Nat.reduceEqDiff, Go.Addr.add, ↓reduceIte] at hx228_0); have qi228 : (2 < y222.length) = True := eq_true u44_; (try rw [show ((2 : Int)).toNat = 2 from rfl] at hx228_0); have hn228_0 : ad225.block ≠ gb226 := u64_; have hn228_1 : ad225.block ≠ gb226 := u64_; have hn228_2 : ad225.block ≠ gb226 := u64_; have hn228_3 : ad225.block ≠ gb226 := u64_; replace hx228_0 := (cell_far (p := ⟨gb226, 0, none⟩) (by first | (rw [add_block]; exact hn228_0) | (show (Addr.add _ _).block ≠ _; rw [add_block]; exact hn228_0) | exact hn228_0) (.string (rdOf ByteArray.empty y222 0))).trans hx228_0; replace hx228_0 := (cell_far (p := ⟨gb226, 1, none⟩) (by first | (rw [add_block]; exact hn228_1) | (show (Addr.add _ _).block ≠ _; rw [add_block]; exact hn228_1) | exact hn228_1) (.int .i64 0)).trans hx228_0; replace hx228_0 := (cell_far (p := ⟨gb226, 2, none⟩) (by first | (rw [add_block]; exact hn228_2) | (show (Addr.add _ _).block ≠ _; rw [add_block]; exact hn228_2) | exact hn228_2) (.int .i64 0)).trans hx228_0; replace hx228_0 := (cell_far (p := ⟨gb226, 1, none⟩) (by first | (rw [add_block]; exact hn228_3) | (show (Addr.add _ _).block ≠ _; rw [add_block]; exact hn228_3) | exact hn228_3) (.int .i64 1)).trans hx228_0; clear hn228_0; clear hn228_1; clear hn228_2; clear hn228_3; replace p228 := eq_true p228; replace q228 := eq_true q228) | ((with_reducible refine gate_callee (f := 55) rfl ?_); refine goesL_ (some 35) rfl rfl Tryd.func55 u20_ rfl #[.string (rdOf ByteArray.empty y222 2)] rfl u1_ ?_; (with_reducible refine (strconv_Atoi.calls (rdOf ByteArray.empty y222 2) t229 t230 _ ?side1 A16.out).mono ?_); (case side1 => exact StopsIn.below HG_.out u13_); rintro e w26 ⟨⟨ev_, rfl⟩, hb⟩; refine ⟨_, rfl, ?_⟩; have n0_ := Aside0.mk (Kd.R_below (by (with_reducible repeat (first | apply Kd.R_alloc | apply Kd.R_drewN | apply Kd.R_drew)); exact (Kd.R_mono (Kd.R_far (p := ⟨gb226, 1, none⟩) (Kd.R_far (p := ⟨gb226, 2, none⟩) (Kd.R_far (p := ⟨gb226, 1, none⟩) (Kd.R_far (p := ⟨gb226, 0, none⟩) (Kd.R_mono HO_4.out (fun k_ hk => (⟨hk, hk.2⟩ : _ ∧ k_ ≠ gb226))) (fun _ hk => hk.2) (.string (rdOf ByteArray.empty y222 0))) (fun _ hk => hk.2) (.int .i64 0)) (fun _ hk => hk.2) (.int .i64 0)) (fun _ hk => hk.2) (.int .i64 1)) (fun _ h_ => h_.1))) hb); have n1_ := Aside0.mk (Kd.R_below (by (with_reducible repeat (first | apply Kd.R_alloc | apply Kd.R_drewN | apply Kd.R_drew)); exact (Kd.R_mono (Kd.R_far (p := ⟨gb226, 1, none⟩) (Kd.R_far (p := ⟨gb226, 2, none⟩) (Kd.R_far (p := ⟨gb226, 1, none⟩) (Kd.R_far (p := ⟨gb226, 0, none⟩) (Kd.R_types HO_11.out BK226.out u31_) (fun _ hk => hk.2) (.string (rdOf ByteArray.empty y222 0))) (fun _ hk => hk.2) (.int .i64 0)) (fun _ hk => hk.2) (.int .i64 0)) (fun _ hk => hk.2) (.int .i64 1)) (fun _ h_ => h_.1))) hb); have n2_ := Aside0.mk (Kd.R_below (by (with_reducible repeat (first | apply Kd.R_alloc | apply Kd.R_drewN | apply Kd.R_drew)); exact (Kd.R_mono (Kd.R_far (p := ⟨gb226, 1, none⟩) (Kd.R_far (p := ⟨gb226, 2, none⟩) (Kd.R_far (p := ⟨gb226, 1, none⟩) (Kd.R_far (p := ⟨gb226, 0, none⟩) (Kd.R_types HO221.out BK226.out u31_) (fun _ hk => hk.2) (.string (rdOf ByteArray.empty y222 0))) (fun _ hk => hk.2) (.int .i64 0)) (fun _ hk => hk.2) (.int .i64 0)) (fun _ hk => hk.2) (.int .i64 1)) (fun _ h_ => h_.1))) hb); have n3_ := Aside0.mk (Kd.R_below (by (with_reducible repeat (first | apply Kd.R_alloc | apply Kd.R_drewN | apply Kd.R_drew)); exact (Kd.R_mono (Kd.R_far (p := ⟨gb226, 1, none⟩) (Kd.R_far (p := ⟨gb226, 2, none⟩) (Kd.R_far (p := ⟨gb226, 1, none⟩) (Kd.R_far (p := ⟨gb226, 0, none⟩) (Kd.R_types HO224.out BK226.out u31_) (fun _ hk => hk.2) (.string (rdOf ByteArray.empty y222 0))) (fun _ hk => hk.2) (.int .i64 0)) (fun _ hk => hk.2) (.int .i64 0)) (fun _ hk => hk.2) (.int .i64 1)) (fun _ h_ => h_.1))) hb); have n4_ := Aside0.mk (blk_below (g := gb226) (o := .cells #[.string (rdOf ByteArray.empty y222 0), .int .i64 1, .int .i64 0] 75 (0, 0)) u8_ hb); have n5_ := Aside0.mk (below_step u13_ hb); clear HO_4; clear HO_11; clear HO221; clear HO224; clear BK226; clear HB; have HO_4 := n0_; have HO_11 := n1_; have HO221 := n2_; have HO224 := n3_; have BK226 := n4_; have HB := n5_; clear n0_ n1_ n2_ n3_ n4_ n5_; (try clear hb); (try clear hb2); (try clear hk); (try clear hi); (try simp only [errW_none, errW_some]); have hcz27_0 : w26.cell? ⟨gb226, 0, none⟩ = some (.string (rdOf ByteArray.empty y222 0)) := (blk_cell BK226.out 0).trans rfl; have hcz27_1 : w26.cell? ⟨gb226, 1, none⟩ = some (.int .i64 1) := (blk_cell BK226.out 1).trans rfl; have hcz27_2 : w26.cell? ⟨gb226, 2, none⟩ = some (.int .i64 0) := (blk_cell BK226.out 2).trans rfl; have hfz27_0 := blk_frozen BK226.out 0; have hfz27_1 := blk_frozen BK226.out 1; have hfz27_2 := blk_frozen BK226.out 2) | ((with_reducible refine gate_builtin (b := .append) (xs := #[.tmp 45, .tmp 47]) rfl ?_); at_builtin; refine Kd.R_append k75 (w0 := w) w.heap.size rfl (.tmp 45) (.tmp 47) 34 75 (.agg #[(.string ⟨#[]⟩), (.int .i64 0), (.int .i64 0)]) 32 rfl Tryd.underlying34 info75 rfl u31_ u44_ u4 x4_1 (⟨rdOf ByteArray.empty y222 0, 1, t229⟩ : S75) [.string (rdOf ByteArray.empty y222 0), .int .i64 1, .int .i64 t229] (fun k_ => k_ ≠ gb226) (fun _ => False) rfl (by first | (go_simp; done) | (go_simp; rfl)) ?aP (fun _ hk => hk.elim) ?aF ?aO ?aB ?aS ?aL ?_; (case aP => exact k75_mkM _ _ _ (⟨rdOf ByteArray.empty y222 0, 1, t229⟩ : S75)); (case aB => exact u13_); (case aF => exact (fun k_ hk => Kd.freshB (g := gb226) (o := .cells #[.string (rdOf ByteArray.empty y222 0), .int .i64 1, .int .i64 t229] 75 (0, 0)) u58_ k_ hk)); (case aO => exact (by (with_reducible repeat (first | apply Kd.R_alloc | apply Kd.R_drewN | apply Kd.R_drew)); exact Kd.R_mono (Kd.R_far (p := ⟨gb226, 2, none⟩) (Kd.R_mono HO_4.out (fun k_ hk => (⟨hk, hk.2⟩ : _ ∧ k_ ≠ gb226))) (fun _ hk => hk.2) (.int .i64 t229)) (fun _ hk => hk.1.2))); (case aS => exact (below_size u13_)); (case aL => have := LMc17.out; omega); intro v232 w28 ho hb hg hat; rw [← Ny231.out] at ho; have n0_ := Aside0.mk (Kd.R_over' (by (with_reducible repeat (first | apply Kd.R_alloc | apply Kd.R_drewN | apply Kd.R_drew)); exact (Kd.R_mono (Kd.R_far (p := ⟨gb226, 2, none⟩) (Kd.R_types HO_11.out BK226.out u31_) (fun _ hk => hk.2) (.int .i64 t229)) (fun _ h_ => h_.1))) (Kd.R_typed u41_) u31_ hg); have n1_ := Aside0.mk (Kd.R_over' (by (with_reducible repeat (first | apply Kd.R_alloc | apply Kd.R_drewN | apply Kd.R_drew)); exact (Kd.R_mono (Kd.R_far (p := ⟨gb226, 2, none⟩) (Kd.R_types HO221.out BK226.out u31_) (fun _ hk => hk.2) (.int .i64 t229)) (fun _ h_ => h_.1))) (Kd.R_typed u41_) u31_ hg); have n2_ := Aside0.mk (Kd.R_over' (by (with_reducible repeat (first | apply Kd.R_alloc | apply Kd.R_drewN | apply Kd.R_drew)); exact (Kd.R_mono (Kd.R_far (p := ⟨gb226, 2, none⟩) (Kd.R_types HO224.out BK226.out u31_) (fun _ hk => hk.2) (.int .i64 t229)) (fun _ h_ => h_.1))) (Kd.R_typed u41_) u31_ hg); have n3_ := Aside0.mk (blk_grown (g := gb226) (o := .cells #[.string (rdOf ByteArray.empty y222 0), .int .i64 1, .int .i64 t229] 75 (0, 0)) u58_ hg (Kd.R_away HO_4.out (fun _ hk => hk.2))); have n4_ := Aside0.mk (hb); have n5_ := Aside0.mk (ho); clear HO_11; clear HO221; clear HO224; clear BK226; clear HB; clear HO_4; have HO_11 := n0_; have HO221 := n1_; have HO224 := n2_; have BK226 := n3_; have HB := n4_; have HO233 := n5_; clear n0_ n1_ n2_ n3_ n4_ n5_; clear ho hb hg hat))
            go_roundg k1
            case measure => have := HK1.out; omega
            case rel => exact ⟨(y231), (wrap64 (x13_1 + 1)), u10_, H', ⟨u48_⟩, ⟨by (with_reducible repeat (first | apply Kd.R_alloc | apply Kd.R_drewN | apply Kd.R_drew)); exact Kd.R_mono HO233.out (fun _ hk => trivial)⟩, ⟨u51_⟩, ⟨u13_⟩⟩
           ·rw [if_neg c17] at H
            exact absurd H u43_
          ·rw [if_neg c15] at H
           exact absurd H u43_
         ·rw [if_neg c14] at H
          have c14b0 : ((rdOf ByteArray.empty y222 1).toList == ([116, 101, 120, 116] : List UInt8)) = false := beq_eq_false_iff_ne.mpr c14
          have c14b1 : ((rdOf ByteArray.empty y222 1).toList != ([116, 101, 120, 116] : List UInt8)) = true := bne_iff_ne.mpr c14
          by_cases c29 : (rdOf ByteArray.empty y222 1).toList = ([110, 117, 109] : List UInt8)
          ·rw [if_pos c29] at H
           have c29b0 : ((rdOf ByteArray.empty y222 1).toList == ([110, 117, 109] : List UInt8)) = true := beq_iff_eq.mpr c29
           have c29b1 : ((rdOf ByteArray.empty y222 1).toList != ([110, 117, 109] : List UInt8)) = false := bne_eq_false_iff_eq.mpr c29
           clear c29
           by_cases c30 : x4_1.length < 4398046511104
           ·rw [if_pos c30] at H
            have LMc30 := Aside0.mk c30
            clear c30
            obtain ⟨y234, hy234⟩ : ∃ y_ : List (S75), y_ = (x4_1 ++ [(⟨rdOf ByteArray.empty y222 0, 2, 0⟩ : S75)]) := ⟨_, rfl⟩
            replace H : (impl_FieldsGet.l0 k1 a0 y234 t212 (t212.length : Int) (wrap64 (x13_1 + 1))) = some (r1, r2) := by first | (rw [hy234]; with_reducible exact H) | (have H2_ := (Option.bind_some _ _).symm.trans H; rw [hy234]; with_reducible exact H2_) | (have H2_ := (Option.bind_some _ _).symm.trans H; with_reducible exact H2_) | with_reducible exact H | (rw [hy234]; exact H) | exact H
            have Ny234 := Aside0.mk hy234
            clear hy234
            have H' := Aside0.mk H
            clear H
            have p215 : 0 ≤ (x13_1 : Int) := of_decide_eq_true u3_
            have q215 : x13_1 < (t212.length : Int) := of_decide_eq_true u3_
            obtain ⟨ad215, e215, hx215_0⟩ := Kd.at_string (Kd.R_reads' HO_11.out).2.2 x13_1 p215 q215
            cases e215
            replace p215 := eq_true p215
            replace q215 := eq_true q215
            go_wp2_with (first | ((with_reducible refine gate_callee (f := 44) rfl ?_); refine goesL_ (some 18) rfl rfl Tryd.func44 u20_ rfl #[.string (rdOf ByteArray.empty t212 x13_1), .string (⟨#[58]⟩ : ByteArray)] rfl u1_ ?_; (with_reducible refine (strings_Split.calls (rdOf ByteArray.empty t212 x13_1) (⟨#[58]⟩ : ByteArray) t216 _ ?side1 A10.out).mono ?_); (case side1 => exact StopsIn.below HG_.out u0_); rintro e w31 ⟨v217, rfl, ho0, hb⟩; refine ⟨_, rfl, ?_⟩; have n0_ := Aside0.mk (Kd.R_below u7_ hb); have n1_ := Aside0.mk (Kd.R_elder' u9_ (Kd.R_base ho0) hb); have n2_ := Aside0.mk (Kd.R_lower (Kd.R_new' ho0 (Kd.R_lt u9_)) (below_size u0_)); have n3_ := Aside0.mk (below_step u0_ hb); clear HO_4; clear HO_11; clear HB; have HO_4 := n0_; have HO_11 := n1_; have HO218 := n2_; have HB := n3_; clear n0_ n1_ n2_ n3_; (try clear hb); (try clear hb2); (try clear hk); (try clear hi); (try clear ho0)) | ((with_reducible refine gate_dst (N := 19) rfl ?_); refine Kd.R_lit Kd.string _ 9 ?hg (N := 19) ?hd (xs := ([(⟨#[]⟩ : ByteArray), (⟨#[]⟩ : ByteArray)] : List ByteArray)) (inner := [.string (⟨#[]⟩ : ByteArray), .string (⟨#[]⟩ : ByteArray)]) (ok := fun _ => True) (okp := fun _ => True) ?hr ?hp (fun _ hk => hk) trivial (Below.refl _ _) (Nat.le_refl _) u43_ ?_; (case hd => rfl); (case hg => rfl); (case hr => first | (go_simp; done) | (go_simp; rfl)); (case hp => exact (Reps.one (show Kd.M Kd.string _ _ _ (⟨#[]⟩ : ByteArray) [.string (⟨#[]⟩ : ByteArray)] from rfl) (Reps.one (show Kd.M Kd.string _ _ _ (⟨#[]⟩ : ByteArray) [.string (⟨#[]⟩ : ByteArray)] from rfl) (Reps.none _ _)))); intro v220 w32 ho33 hb hg_ hnew_; clear hg_ hnew_; (first | rw [← Ny219.out] at ho33 | (simp only [Int.reduceToNat] at ho33; rw [← Ny219.out] at ho33)); have n0_ := Aside0.mk (Kd.R_below u7_ hb); have n1_ := Aside0.mk (Kd.R_elder' u9_ (Kd.R_base ho33) hb); have n2_ := Aside0.mk (Kd.R_elder' u25_ (Kd.R_base ho33) hb); have n3_ := Aside0.mk (Kd.R_lower (Kd.R_new' (Kd.R_new' ho33 (Kd.R_lt u9_)) (Kd.R_lt u25_)) (below_size u0_)); have n4_ := Aside0.mk (below_step u0_ hb); clear HO_4; clear HO_11; clear HO218; clear HB; have HO_4 := n0_; have HO_11 := n1_; have HO218 := n2_; have HO221 := n3_; have HB := n4_; clear n0_ n1_ n2_ n3_ n4_; clear hb ho33; obtain ⟨Ao35, co35, eo35⟩ := Kd.R_slice HO221.out; subst eo35) | ((with_reducible refine gate_builtin (b := .append) (xs := #[.tmp 18, .tmp 19]) rfl ?_); at_builtin; refine Kd.R_append_rows Kd.string (w0 := w) w.heap.size rfl (.tmp 18) (.tmp 19) 61 9 (.string ⟨#[]⟩) 16 rfl Tryd.underlying61 info9 rfl u31_ u44_ v217 t216 y219 _ _ _ (fun k_ => some k_ ≠ (.slice (some ad215) t212.length co6 : Value).ownBlock ∧ some k_ ≠ (.slice Ao35 y219.length co35 : Value).ownBlock) (fun _ => False) rfl rfl ?aO ?aR (fun _ _ h => h) (fun _ h => h.elim) ?aF ?aB ?aS ?aL ?_; (case aR => repeat (first | exact (Kd.R_reads' HO221.out).2.2 | (with_reducible refine Kd.C_alloc ?_ _) | (with_reducible refine Kd.C_drewN ?_ _) | (with_reducible refine Kd.C_drew ?_))); (case aB => exact u0_); (case aF => exact (fun k_ hk => ⟨Kd.fresh' (Kd.R_lt u9_) k_ hk, Kd.fresh' (Kd.R_lt u33_) k_ hk⟩)); (case aO => exact u45_); (case aS => exact (below_size u0_)); (case aL => have := LMc11.out; omega); intro v223 w34 ho hb hg hat; rw [← Ny222.out] at ho; have n0_ := Aside0.mk (Kd.R_over' u7_ (Kd.R_typed u25_) u31_ hg); have n1_ := Aside0.mk (Kd.R_after (ok := (fun k_ => some k_ ≠ (.slice Ao35 y219.length co35 : Value).ownBlock)) u46_ hg hat); have n2_ := Aside0.mk (Kd.R_after (ok := (fun k_ => some k_ ≠ (.slice (some ad215) t212.length co6 : Value).ownBlock)) u47_ hg hat); have n3_ := Aside0.mk (hb); have n4_ := Aside0.mk (ho); clear HO_4; clear HO_11; clear HO221; clear HB; clear HO218; have HO_4 := n0_; have HO_11 := n1_; have HO221 := n2_; have HB := n3_; have HO224 := n4_; clear n0_ n1_ n2_ n3_ n4_; clear ho hb hg hat; obtain ⟨Ao36, co36, eo36⟩ := Kd.R_slice HO224.out; subst eo36; have p225 : 0 ≤ (0 : Int) := u44_; have q225 : 0 < (y222.length : Int) := of_decide_eq_true u3_; obtain ⟨ad225, e225, hx225_0⟩ := Kd.at_string (Kd.R_reads' HO224.out).2.2 0 p225 q225; cases e225; have qi225 : (0 < y222.length) = True := eq_true u44_; (try rw [show ((0 : Int)).toNat = 0 from rfl] at hx225_0); (try rw [Addr.add_zero'] at hx225_0); replace p225 := eq_true p225; replace q225 := eq_true q225) | ((with_reducible refine gate_dst (N := 8) rfl ?_); refine box_event ?hg (N := 8) ?hd (cs := #[.string (⟨#[]⟩ : ByteArray), .int .i64 0, .int .i64 0]) (t := 75) ?hr ?_; (case hd => rfl); (case hg => rfl); (case hr => first | (go_simp; done) | (go_simp; rfl)); intro gb226 hg w37 hbox hb; have n0_ := Aside0.mk (Kd.R_below (Kd.R_elderB u7_ gb226 (Nat.le_of_eq hg.symm)) hb); have n1_ := Aside0.mk (Kd.R_below u9_ hb); have n2_ := Aside0.mk (Kd.R_below u33_ hb); have n3_ := Aside0.mk (Kd.R_below u59_ hb); have n4_ := Aside0.mk (below_step u0_ hb); have n5_ := Aside0.mk (hbox); have n6_ := Aside0.mk ((by rw [hg]; exact (below_size u0_) : w.heap.size ≤ gb226)); have n7_ := Aside0.mk ((by rw [hg]; exact (below_size u0_) : w.heap.size ≤ gb226)); clear HO_4; clear HO_11; clear HO221; clear HO224; clear HB; have HO_4 := n0_; have HO_11 := n1_; have HO221 := n2_; have HO224 := n3_; have HB := n4_; have BK226 := n5_; have GW226 := n6_; have GE226 := n7_; clear n0_ n1_ n2_ n3_ n4_ n5_ n6_ n7_; clear hb hbox hg; have hcz38_0 : w37.cell? ⟨gb226, 0, none⟩ = some (.string (⟨#[]⟩ : ByteArray)) := (blk_cell BK226.out 0).trans rfl; have hcz38_1 : w37.cell? ⟨gb226, 1, none⟩ = some (.int .i64 0) := (blk_cell BK226.out 1).trans rfl; have hcz38_2 : w37.cell? ⟨gb226, 2, none⟩ = some (.int .i64 0) := (blk_cell BK226.out 2).trans rfl; have hfz38_0 := blk_frozen BK226.out 0; have hfz38_1 := blk_frozen BK226.out 1; have hfz38_2 := blk_frozen BK226.out 2; have p227 : 0 ≤ (1 : Int) := u44_; have q227 : 1 < (y222.length : Int) := of_decide_eq_true u3_; obtain ⟨ad227, e227, hx227_0⟩ := Kd.at_string (Kd.R_reads' HO224.out).2.2 1 p227 q227; obtain rfl : ad225 = ad227 := (by injection e227); (try simp only [show (1 : Int).toNat = 1 from rfl, Nat.reduceMul, Nat.reduceEqDiff, Go.Addr.add, ↓reduceIte] at hx227_0); have qi227 : (1 < y222.length) = True := eq_true u44_; (try rw [show ((1 : Int)).toNat = 1 from rfl] at hx227_0); have hn227_0 : ad225.block ≠ gb226 := u64_; have hn227_1 : ad225.block ≠ gb226 := u64_; have hn227_2 : ad225.block ≠ gb226 := u64_; replace hx227_0 := (cell_far (p := ⟨gb226, 0, none⟩) u54_ (.string (rdOf ByteArray.empty y222 0))).trans hx227_0; replace hx227_0 := (cell_far (p := ⟨gb226, 1, none⟩) u55_ (.int .i64 0)).trans hx227_0; replace hx227_0 := (cell_far (p := ⟨gb226, 2, none⟩) u56_ (.int .i64 0)).trans hx227_0; clear hn227_0; clear hn227_1; clear hn227_2; replace p227 := eq_true p227; replace q227 := eq_true q227) | ((with_reducible refine gate_builtin (b := .append) (xs := #[.tmp 45, .tmp 47]) rfl ?_); at_builtin; refine Kd.R_append k75 (w0 := w) w.heap.size rfl (.tmp 45) (.tmp 47) 34 75 (.agg #[(.string ⟨#[]⟩), (.int .i64 0), (.int .i64 0)]) 32 rfl Tryd.underlying34 info75 rfl u31_ u44_ u4 x4_1 (⟨rdOf ByteArray.empty y222 0, 2, 0⟩ : S75) [.string (rdOf ByteArray.empty y222 0), .int .i64 2, .int .i64 0] (fun k_ => k_ ≠ gb226) (fun _ => False) rfl (by first | (go_simp; done) | (go_simp; rfl)) ?aP (fun _ hk => hk.elim) ?aF ?aO ?aB ?aS ?aL ?_; (case aP => exact k75_mkM _ _ _ (⟨rdOf ByteArray.empty y222 0, 2, 0⟩ : S75)); (case aB => exact u13_); (case aF => exact (fun k_ hk => Kd.freshB (g := gb226) (o := .cells #[.string (rdOf ByteArray.empty y222 0), .int .i64 2, .int .i64 0] 75 (0, 0)) u8_ k_ hk)); (case aO => exact (by (with_reducible repeat (first | apply Kd.R_alloc | apply Kd.R_drewN | apply Kd.R_drew)); exact Kd.R_mono (Kd.R_far (p := ⟨gb226, 1, none⟩) (Kd.R_far (p := ⟨gb226, 2, none⟩) (Kd.R_far (p := ⟨gb226, 1, none⟩) (Kd.R_far (p := ⟨gb226, 0, none⟩) (Kd.R_mono HO_4.out (fun k_ hk => (⟨hk, hk.2⟩ : _ ∧ k_ ≠ gb226))) (fun _ hk => hk.2) (.string (rdOf ByteArray.empty y222 0))) (fun _ hk => hk.2) (.int .i64 0)) (fun _ hk => hk.2) (.int .i64 0)) (fun _ hk => hk.2) (.int .i64 2)) (fun _ hk => hk.1.2))); (case aS => exact (below_size u13_)); (case aL => have := LMc30.out; omega); intro v235 w39 ho hb hg hat; rw [← Ny234.out] at ho; have n0_ := Aside0.mk (Kd.R_over' (by (with_reducible repeat (first | apply Kd.R_alloc | apply Kd.R_drewN | apply Kd.R_drew)); exact (Kd.R_mono (Kd.R_far (p := ⟨gb226, 1, none⟩) (Kd.R_far (p := ⟨gb226, 2, none⟩) (Kd.R_far (p := ⟨gb226, 1, none⟩) (Kd.R_far (p := ⟨gb226, 0, none⟩) (Kd.R_types HO_11.out BK226.out u31_) (fun _ hk => hk.2) (.string (rdOf ByteArray.empty y222 0))) (fun _ hk => hk.2) (.int .i64 0)) (fun _ hk => hk.2) (.int .i64 0)) (fun _ hk => hk.2) (.int .i64 2)) (fun _ h_ => h_.1))) (Kd.R_typed u26_) u31_ hg); have n1_ := Aside0.mk (Kd.R_over' (by (with_reducible repeat (first | apply Kd.R_alloc | apply Kd.R_drewN | apply Kd.R_drew)); exact (Kd.R_mono (Kd.R_far (p := ⟨gb226, 1, none⟩) (Kd.R_far (p := ⟨gb226, 2, none⟩) (Kd.R_far (p := ⟨gb226, 1, none⟩) (Kd.R_far (p := ⟨gb226, 0, none⟩) (Kd.R_types HO221.out BK226.out u31_) (fun _ hk => hk.2) (.string (rdOf ByteArray.empty y222 0))) (fun _ hk => hk.2) (.int .i64 0)) (fun _ hk => hk.2) (.int .i64 0)) (fun _ hk => hk.2) (.int .i64 2)) (fun _ h_ => h_.1))) (Kd.R_typed u26_) u31_ hg); have n2_ := Aside0.mk (Kd.R_over' (by (with_reducible repeat (first | apply Kd.R_alloc | apply Kd.R_drewN | apply Kd.R_drew)); exact (Kd.R_mono (Kd.R_far (p := ⟨gb226, 1, none⟩) (Kd.R_far (p := ⟨gb226, 2, none⟩) (Kd.R_far (p := ⟨gb226, 1, none⟩) (Kd.R_far (p := ⟨gb226, 0, none⟩) (Kd.R_types HO224.out BK226.out u31_) (fun _ hk => hk.2) (.string (rdOf ByteArray.empty y222 0))) (fun _ hk => hk.2) (.int .i64 0)) (fun _ hk => hk.2) (.int .i64 0)) (fun _ hk => hk.2) (.int .i64 2)) (fun _ h_ => h_.1))) (Kd.R_typed u26_) u31_ hg); have n3_ := Aside0.mk (blk_grown (g := gb226) (o := .cells #[.string (rdOf ByteArray.empty y222 0), .int .i64 2, .int .i64 0] 75 (0, 0)) u8_ hg (Kd.R_away HO_4.out (fun _ hk => hk.2))); have n4_ := Aside0.mk (hb); have n5_ := Aside0.mk (ho); clear HO_11; clear HO221; clear HO224; clear BK226; clear HB; clear HO_4; have HO_11 := n0_; have HO221 := n1_; have HO224 := n2_; have BK226 := n3_; have HB := n4_; have HO236 := n5_; clear n0_ n1_ n2_ n3_ n4_ n5_; clear ho hb hg hat))
            go_roundg k1
            case measure => have := HK1.out; omega
            case rel => exact ⟨(y234), (wrap64 (x13_1 + 1)), u10_, H', ⟨u48_⟩, ⟨by (with_reducible repeat (first | apply Kd.R_alloc | apply Kd.R_drewN | apply Kd.R_drew)); exact Kd.R_mono HO236.out (fun _ hk => trivial)⟩, ⟨u51_⟩, ⟨u13_⟩⟩
           ·rw [if_neg c30] at H
            exact absurd H u43_
          ·rw [if_neg c29] at H
           have c29b0 : ((rdOf ByteArray.empty y222 1).toList == ([110, 117, 109] : List UInt8)) = false := beq_eq_false_iff_ne.mpr c29
           have c29b1 : ((rdOf ByteArray.empty y222 1).toList != ([110, 117, 109] : List UInt8)) = true := bne_iff_ne.mpr c29
           by_cases c40 : (rdOf ByteArray.empty y222 1).toList = ([116, 97, 103] : List UInt8)
           ·rw [if_pos c40] at H
            have c40b0 : ((rdOf ByteArray.empty y222 1).toList == ([116, 97, 103] : List UInt8)) = true := beq_iff_eq.mpr c40
            have c40b1 : ((rdOf ByteArray.empty y222 1).toList != ([116, 97, 103] : List UInt8)) = false := bne_eq_false_iff_eq.mpr c40
            clear c40
            by_cases c41 : x4_1.length < 4398046511104
            ·rw [if_pos c41] at H
             have LMc41 := Aside0.mk c41
             clear c41
             obtain ⟨y237, hy237⟩ : ∃ y_ : List (S75), y_ = (x4_1 ++ [(⟨rdOf ByteArray.empty y222 0, 3, 0⟩ : S75)]) := ⟨_, rfl⟩
             replace H : (impl_FieldsGet.l0 k1 a0 y237 t212 (t212.length : Int) (wrap64 (x13_1 + 1))) = some (r1, r2) := by first | (rw [hy237]; with_reducible exact H) | (have H2_ := (Option.bind_some _ _).symm.trans H; rw [hy237]; with_reducible exact H2_) | (have H2_ := (Option.bind_some _ _).symm.trans H; with_reducible exact H2_) | with_reducible exact H | (rw [hy237]; exact H) | exact H
             have Ny237 := Aside0.mk hy237
             clear hy237
             have H' := Aside0.mk H
             clear H
             have p215 : 0 ≤ (x13_1 : Int) := of_decide_eq_true u3_
             have q215 : x13_1 < (t212.length : Int) := of_decide_eq_true u3_
             obtain ⟨ad215, e215, hx215_0⟩ := Kd.at_string (Kd.R_reads' HO_11.out).2.2 x13_1 p215 q215
             cases e215
             replace p215 := eq_true p215
             replace q215 := eq_true q215
             go_wp2_with (first | ((with_reducible refine gate_callee (f := 44) rfl ?_); refine goesL_ (some 18) rfl rfl Tryd.func44 u20_ rfl #[.string (rdOf ByteArray.empty t212 x13_1), .string (⟨#[58]⟩ : ByteArray)] rfl u1_ ?_; (with_reducible refine (strings_Split.calls (rdOf ByteArray.empty t212 x13_1) (⟨#[58]⟩ : ByteArray) t216 _ ?side1 A10.out).mono ?_); (case side1 => exact StopsIn.below HG_.out u0_); rintro e w42 ⟨v217, rfl, ho0, hb⟩; refine ⟨_, rfl, ?_⟩; have n0_ := Aside0.mk (Kd.R_below u7_ hb); have n1_ := Aside0.mk (Kd.R_elder' u9_ (Kd.R_base ho0) hb); have n2_ := Aside0.mk (Kd.R_lower (Kd.R_new' ho0 (Kd.R_lt u9_)) (below_size u0_)); have n3_ := Aside0.mk (below_step u0_ hb); clear HO_4; clear HO_11; clear HB; have HO_4 := n0_; have HO_11 := n1_; have HO218 := n2_; have HB := n3_; clear n0_ n1_ n2_ n3_; (try clear hb); (try clear hb2); (try clear hk); (try clear hi); (try clear ho0)) | ((with_reducible refine gate_dst (N := 19) rfl ?_); refine Kd.R_lit Kd.string _ 9 ?hg (N := 19) ?hd (xs := ([(⟨#[]⟩ : ByteArray), (⟨#[]⟩ : ByteArray)] : List ByteArray)) (inner := [.string (⟨#[]⟩ : ByteArray), .string (⟨#[]⟩ : ByteArray)]) (ok := fun _ => True) (okp := fun _ => True) ?hr ?hp (fun _ hk => hk) trivial (Below.refl _ _) (Nat.le_refl _) u43_ ?_; (case hd => rfl); (case hg => rfl); (case hr => first | (go_simp; done) | (go_simp; rfl)); (case hp => exact (Reps.one (show Kd.M Kd.string _ _ _ (⟨#[]⟩ : ByteArray) [.string (⟨#[]⟩ : ByteArray)] from rfl) (Reps.one (show Kd.M Kd.string _ _ _ (⟨#[]⟩ : ByteArray) [.string (⟨#[]⟩ : ByteArray)] from rfl) (Reps.none _ _)))); intro v220 w43 ho44 hb hg_ hnew_; clear hg_ hnew_; (first | rw [← Ny219.out] at ho44 | (simp only [Int.reduceToNat] at ho44; rw [← Ny219.out] at ho44)); have n0_ := Aside0.mk (Kd.R_below u7_ hb); have n1_ := Aside0.mk (Kd.R_elder' u9_ (Kd.R_base ho44) hb); have n2_ := Aside0.mk (Kd.R_elder' u25_ (Kd.R_base ho44) hb); have n3_ := Aside0.mk (Kd.R_lower (Kd.R_new' (Kd.R_new' ho44 (Kd.R_lt u9_)) (Kd.R_lt u25_)) (below_size u0_)); have n4_ := Aside0.mk (below_step u0_ hb); clear HO_4; clear HO_11; clear HO218; clear HB; have HO_4 := n0_; have HO_11 := n1_; have HO218 := n2_; have HO221 := n3_; have HB := n4_; clear n0_ n1_ n2_ n3_ n4_; clear hb ho44; obtain ⟨Ao46, co46, eo46⟩ := Kd.R_slice HO221.out; subst eo46) | ((with_reducible refine gate_builtin (b := .append) (xs := #[.tmp 18, .tmp 19]) rfl ?_); at_builtin; refine Kd.R_append_rows Kd.string (w0 := w) w.heap.size rfl (.tmp 18) (.tmp 19) 61 9 (.string ⟨#[]⟩) 16 rfl Tryd.underlying61 info9 rfl u31_ u44_ v217 t216 y219 _ _ _ (fun k_ => some k_ ≠ (.slice (some ad215) t212.length co6 : Value).ownBlock ∧ some k_ ≠ (.slice Ao46 y219.length co46 : Value).ownBlock) (fun _ => False) rfl rfl ?aO ?aR (fun _ _ h => h) (fun _ h => h.elim) ?aF ?aB ?aS ?aL ?_; (case aR => repeat (first | exact (Kd.R_reads' HO221.out).2.2 | (with_reducible refine Kd.C_alloc ?_ _) | (with_reducible refine Kd.C_drewN ?_ _) | (with_reducible refine Kd.C_drew ?_))); (case aB => exact u0_); (case aF => exact (fun k_ hk => ⟨Kd.fresh' (Kd.R_lt u9_) k_ hk, Kd.fresh' (Kd.R_lt u33_) k_ hk⟩)); (case aO => exact u45_); (case aS => exact (below_size u0_)); (case aL => have := LMc11.out; omega); intro v223 w45 ho hb hg hat; rw [← Ny222.out] at ho; have n0_ := Aside0.mk (Kd.R_over' u7_ (Kd.R_typed u25_) u31_ hg); have n1_ := Aside0.mk (Kd.R_after (ok := (fun k_ => some k_ ≠ (.slice Ao46 y219.length co46 : Value).ownBlock)) u46_ hg hat); have n2_ := Aside0.mk (Kd.R_after (ok := (fun k_ => some k_ ≠ (.slice (some ad215) t212.length co6 : Value).ownBlock)) u47_ hg hat); have n3_ := Aside0.mk (hb); have n4_ := Aside0.mk (ho); clear HO_4; clear HO_11; clear HO221; clear HB; clear HO218; have HO_4 := n0_; have HO_11 := n1_; have HO221 := n2_; have HB := n3_; have HO224 := n4_; clear n0_ n1_ n2_ n3_ n4_; clear ho hb hg hat; obtain ⟨Ao47, co47, eo47⟩ := Kd.R_slice HO224.out; subst eo47; have p225 : 0 ≤ (0 : Int) := u44_; have q225 : 0 < (y222.length : Int) := of_decide_eq_true u3_; obtain ⟨ad225, e225, hx225_0⟩ := Kd.at_string (Kd.R_reads' HO224.out).2.2 0 p225 q225; cases e225; have qi225 : (0 < y222.length) = True := eq_true u44_; (try rw [show ((0 : Int)).toNat = 0 from rfl] at hx225_0); (try rw [Addr.add_zero'] at hx225_0); replace p225 := eq_true p225; replace q225 := eq_true q225) | ((with_reducible refine gate_dst (N := 8) rfl ?_); refine box_event ?hg (N := 8) ?hd (cs := #[.string (⟨#[]⟩ : ByteArray), .int .i64 0, .int .i64 0]) (t := 75) ?hr ?_; (case hd => rfl); (case hg => rfl); (case hr => first | (go_simp; done) | (go_simp; rfl)); intro gb226 hg w48 hbox hb; have n0_ := Aside0.mk (Kd.R_below (Kd.R_elderB u7_ gb226 (Nat.le_of_eq hg.symm)) hb); have n1_ := Aside0.mk (Kd.R_below u9_ hb); have n2_ := Aside0.mk (Kd.R_below u33_ hb); have n3_ := Aside0.mk (Kd.R_below u59_ hb); have n4_ := Aside0.mk (below_step u0_ hb); have n5_ := Aside0.mk (hbox); have n6_ := Aside0.mk ((by rw [hg]; exact (below_size u0_) : w.heap.size ≤ gb226)); have n7_ := Aside0.mk ((by rw [hg]; exact (below_size u0_) : w.heap.size ≤ gb226)); clear HO_4; clear HO_11; clear HO221; clear HO224; clear HB; have HO_4 := n0_; have HO_11 := n1_; have HO221 := n2_; have HO224 := n3_; have HB := n4_; have BK226 := n5_; have GW226 := n6_; have GE226 := n7_; clear n0_ n1_ n2_ n3_ n4_ n5_ n6_ n7_; clear hb hbox hg; have hcz49_0 : w48.cell? ⟨gb226, 0, none⟩ = some (.string (⟨#[]⟩ : ByteArray)) := (blk_cell BK226.out 0).trans rfl; have hcz49_1 : w48.cell? ⟨gb226, 1, none⟩ = some (.int .i64 0) := (blk_cell BK226.out 1).trans rfl; have hcz49_2 : w48.cell? ⟨gb226, 2, none⟩ = some (.int .i64 0) := (blk_cell BK226.out 2).trans rfl; have hfz49_0 := blk_frozen BK226.out 0; have hfz49_1 := blk_frozen BK226.out 1; have hfz49_2 := blk_frozen BK226.out 2; have p227 : 0 ≤ (1 : Int) := u44_; have q227 : 1 < (y222.length : Int) := of_decide_eq_true u3_; obtain ⟨ad227, e227, hx227_0⟩ := Kd.at_string (Kd.R_reads' HO224.out).2.2 1 p227 q227; obtain rfl : ad225 = ad227 := (by injection e227); (try simp only [show (1 : Int).toNat = 1 from rfl, Nat.reduceMul, Nat.reduceEqDiff, Go.Addr.add, ↓reduceIte] at hx227_0); have qi227 : (1 < y222.length) = True := eq_true u44_; (try rw [show ((1 : Int)).toNat = 1 from rfl] at hx227_0); have hn227_0 : ad225.block ≠ gb226 := u64_; have hn227_1 : ad225.block ≠ gb226 := u64_; have hn227_2 : ad225.block ≠ gb226 := u64_; replace hx227_0 := (cell_far (p := ⟨gb226, 0, none⟩) u54_ (.string (rdOf ByteArray.empty y222 0))).trans hx227_0; replace hx227_0 := (cell_far (p := ⟨gb226, 1, none⟩) u55_ (.int .i64 0)).trans hx227_0; replace hx227_0 := (cell_far (p := ⟨gb226, 2, none⟩) u56_ (.int .i64 0)).trans hx227_0; clear hn227_0; clear hn227_1; clear hn227_2; replace p227 := eq_true p227; replace q227 := eq_true q227) | ((with_reducible refine gate_builtin (b := .append) (xs := #[.tmp 45, .tmp 47]) rfl ?_); at_builtin; refine Kd.R_append k75 (w0 := w) w.heap.size rfl (.tmp 45) (.tmp 47) 34 75 (.agg #[(.string ⟨#[]⟩), (.int .i64 0), (.int .i64 0)]) 32 rfl Tryd.underlying34 info75 rfl u31_ u44_ u4 x4_1 (⟨rdOf ByteArray.empty y222 0, 3, 0⟩ : S75) [.string (rdOf ByteArray.empty y222 0), .int .i64 3, .int .i64 0] (fun k_ => k_ ≠ gb226) (fun _ => False) rfl (by first | (go_simp; done) | (go_simp; rfl)) ?aP (fun _ hk => hk.elim) ?aF ?aO ?aB ?aS ?aL ?_; (case aP => exact k75_mkM _ _ _ (⟨rdOf ByteArray.empty y222 0, 3, 0⟩ : S75)); (case aB => exact u13_); (case aF => exact (fun k_ hk => Kd.freshB (g := gb226) (o := .cells #[.string (rdOf ByteArray.empty y222 0), .int .i64 3, .int .i64 0] 75 (0, 0)) u8_ k_ hk)); (case aO => exact (by (with_reducible repeat (first | apply Kd.R_alloc | apply Kd.R_drewN | apply Kd.R_drew)); exact Kd.R_mono (Kd.R_far (p := ⟨gb226, 1, none⟩) (Kd.R_far (p := ⟨gb226, 2, none⟩) (Kd.R_far (p := ⟨gb226, 1, none⟩) (Kd.R_far (p := ⟨gb226, 0, none⟩) (Kd.R_mono HO_4.out (fun k_ hk => (⟨hk, hk.2⟩ : _ ∧ k_ ≠ gb226))) (fun _ hk => hk.2) (.string (rdOf ByteArray.empty y222 0))) (fun _ hk => hk.2) (.int .i64 0)) (fun _ hk => hk.2) (.int .i64 0)) (fun _ hk => hk.2) (.int .i64 3)) (fun _ hk => hk.1.2))); (case aS => exact (below_size u13_)); (case aL => have := LMc41.out; omega); intro v238 w50 ho hb hg hat; rw [← Ny237.out] at ho; have n0_ := Aside0.mk (Kd.R_over' (by (with_reducible repeat (first | apply Kd.R_alloc | apply Kd.R_drewN | apply Kd.R_drew)); exact (Kd.R_mono (Kd.R_far (p := ⟨gb226, 1, none⟩) (Kd.R_far (p := ⟨gb226, 2, none⟩) (Kd.R_far (p := ⟨gb226, 1, none⟩) (Kd.R_far (p := ⟨gb226, 0, none⟩) (Kd.R_types HO_11.out BK226.out u31_) (fun _ hk => hk.2) (.string (rdOf ByteArray.empty y222 0))) (fun _ hk => hk.2) (.int .i64 0)) (fun _ hk => hk.2) (.int .i64 0)) (fun _ hk => hk.2) (.int .i64 3)) (fun _ h_ => h_.1))) (Kd.R_typed u27_) u31_ hg); have n1_ := Aside0.mk (Kd.R_over' (by (with_reducible repeat (first | apply Kd.R_alloc | apply Kd.R_drewN | apply Kd.R_drew)); exact (Kd.R_mono (Kd.R_far (p := ⟨gb226, 1, none⟩) (Kd.R_far (p := ⟨gb226, 2, none⟩) (Kd.R_far (p := ⟨gb226, 1, none⟩) (Kd.R_far (p := ⟨gb226, 0, none⟩) (Kd.R_types HO221.out BK226.out u31_) (fun _ hk => hk.2) (.string (rdOf ByteArray.empty y222 0))) (fun _ hk => hk.2) (.int .i64 0)) (fun _ hk => hk.2) (.int .i64 0)) (fun _ hk => hk.2) (.int .i64 3)) (fun _ h_ => h_.1))) (Kd.R_typed u27_) u31_ hg); have n2_ := Aside0.mk (Kd.R_over' (by (with_reducible repeat (first | apply Kd.R_alloc | apply Kd.R_drewN | apply Kd.R_drew)); exact (Kd.R_mono (Kd.R_far (p := ⟨gb226, 1, none⟩) (Kd.R_far (p := ⟨gb226, 2, none⟩) (Kd.R_far (p := ⟨gb226, 1, none⟩) (Kd.R_far (p := ⟨gb226, 0, none⟩) (Kd.R_types HO224.out BK226.out u31_) (fun _ hk => hk.2) (.string (rdOf ByteArray.empty y222 0))) (fun _ hk => hk.2) (.int .i64 0)) (fun _ hk => hk.2) (.int .i64 0)) (fun _ hk => hk.2) (.int .i64 3)) (fun _ h_ => h_.1))) (Kd.R_typed u27_) u31_ hg); have n3_ := Aside0.mk (blk_grown (g := gb226) (o := .cells #[.string (rdOf ByteArray.empty y222 0), .int .i64 3, .int .i64 0] 75 (0, 0)) u8_ hg (Kd.R_away HO_4.out (fun _ hk => hk.2))); have n4_ := Aside0.mk (hb); have n5_ := Aside0.mk (ho); clear HO_11; clear HO221; clear HO224; clear BK226; clear HB; clear HO_4; have HO_11 := n0_; have HO221 := n1_; have HO224 := n2_; have BK226 := n3_; have HB := n4_; have HO239 := n5_; clear n0_ n1_ n2_ n3_ n4_ n5_; clear ho hb hg hat))
             go_roundg k1
             case measure => have := HK1.out; omega
             case rel => exact ⟨(y237), (wrap64 (x13_1 + 1)), u10_, H', ⟨u48_⟩, ⟨by (with_reducible repeat (first | apply Kd.R_alloc | apply Kd.R_drewN | apply Kd.R_drew)); exact Kd.R_mono HO239.out (fun _ hk => trivial)⟩, ⟨u51_⟩, ⟨u13_⟩⟩
            ·rw [if_neg c41] at H
             exact absurd H u43_
           ·rw [if_neg c40] at H
            have c40b0 : ((rdOf ByteArray.empty y222 1).toList == ([116, 97, 103] : List UInt8)) = false := beq_eq_false_iff_ne.mpr c40
            have c40b1 : ((rdOf ByteArray.empty y222 1).toList != ([116, 97, 103] : List UInt8)) = true := bne_iff_ne.mpr c40
            by_cases c51 : x4_1.length < 4398046511104
            ·rw [if_pos c51] at H
             have LMc51 := Aside0.mk c51
             clear c51
             obtain ⟨y240, hy240⟩ : ∃ y_ : List (S75), y_ = (x4_1 ++ [(⟨rdOf ByteArray.empty y222 0, 0, 0⟩ : S75)]) := ⟨_, rfl⟩
             replace H : (impl_FieldsGet.l0 k1 a0 y240 t212 (t212.length : Int) (wrap64 (x13_1 + 1))) = some (r1, r2) := by first | (rw [hy240]; with_reducible exact H) | (have H2_ := (Option.bind_some _ _).symm.trans H; rw [hy240]; with_reducible exact H2_) | (have H2_ := (Option.bind_some _ _).symm.trans H; with_reducible exact H2_) | with_reducible exact H | (rw [hy240]; exact H) | exact H
             have Ny240 := Aside0.mk hy240
             clear hy240
             have H' := Aside0.mk H
             clear H
             have p215 : 0 ≤ (x13_1 : Int) := of_decide_eq_true u3_
             have q215 : x13_1 < (t212.length : Int) := of_decide_eq_true u3_
             obtain ⟨ad215, e215, hx215_0⟩ := Kd.at_string (Kd.R_reads' HO_11.out).2.2 x13_1 p215 q215
             cases e215
             replace p215 := eq_true p215
             replace q215 := eq_true q215
             go_wp2_with (first | ((with_reducible refine gate_callee (f := 44) rfl ?_); refine goesL_ (some 18) rfl rfl Tryd.func44 u20_ rfl #[.string (rdOf ByteArray.empty t212 x13_1), .string (⟨#[58]⟩ : ByteArray)] rfl u1_ ?_; (with_reducible refine (strings_Split.calls (rdOf ByteArray.empty t212 x13_1) (⟨#[58]⟩ : ByteArray) t216 _ ?side1 A10.out).mono ?_); (case side1 => exact StopsIn.below HG_.out u0_); rintro e w52 ⟨v217, rfl, ho0, hb⟩; refine ⟨_, rfl, ?_⟩; have n0_ := Aside0.mk (Kd.R_below u7_ hb); have n1_ := Aside0.mk (Kd.R_elder' u9_ (Kd.R_base ho0) hb); have n2_ := Aside0.mk (Kd.R_lower (Kd.R_new' ho0 (Kd.R_lt u9_)) (below_size u0_)); have n3_ := Aside0.mk (below_step u0_ hb); clear HO_4; clear HO_11; clear HB; have HO_4 := n0_; have HO_11 := n1_; have HO218 := n2_; have HB := n3_; clear n0_ n1_ n2_ n3_; (try clear hb); (try clear hb2); (try clear hk); (try clear hi); (try clear ho0)) | ((with_reducible refine gate_dst (N := 19) rfl ?_); refine Kd.R_lit Kd.string _ 9 ?hg (N := 19) ?hd (xs := ([(⟨#[]⟩ : ByteArray), (⟨#[]⟩ : ByteArray)] : List ByteArray)) (inner := [.string (⟨#[]⟩ : ByteArray), .string (⟨#[]⟩ : ByteArray)]) (ok := fun _ => True) (okp := fun _ => True) ?hr ?hp (fun _ hk => hk) trivial (Below.refl _ _) (Nat.le_refl _) u43_ ?_; (case hd => rfl); (case hg => rfl); (case hr => first | (go_simp; done) | (go_simp; rfl)); (case hp => exact (Reps.one (show Kd.M Kd.string _ _ _ (⟨#[]⟩ : ByteArray) [.string (⟨#[]⟩ : ByteArray)] from rfl) (Reps.one (show Kd.M Kd.string _ _ _ (⟨#[]⟩ : ByteArray) [.string (⟨#[]⟩ : ByteArray)] from rfl) (Reps.none _ _)))); intro v220 w53 ho54 hb hg_ hnew_; clear hg_ hnew_; (first | rw [← Ny219.out] at ho54 | (simp only [Int.reduceToNat] at ho54; rw [← Ny219.out] at ho54)); have n0_ := Aside0.mk (Kd.R_below u7_ hb); have n1_ := Aside0.mk (Kd.R_elder' u9_ (Kd.R_base ho54) hb); have n2_ := Aside0.mk (Kd.R_elder' u25_ (Kd.R_base ho54) hb); have n3_ := Aside0.mk (Kd.R_lower (Kd.R_new' (Kd.R_new' ho54 (Kd.R_lt u9_)) (Kd.R_lt u25_)) (below_size u0_)); have n4_ := Aside0.mk (below_step u0_ hb); clear HO_4; clear HO_11; clear HO218; clear HB; have HO_4 := n0_; have HO_11 := n1_; have HO218 := n2_; have HO221 := n3_; have HB := n4_; clear n0_ n1_ n2_ n3_ n4_; clear hb ho54; obtain ⟨Ao56, co56, eo56⟩ := Kd.R_slice HO221.out; subst eo56) | ((with_reducible refine gate_builtin (b := .append) (xs := #[.tmp 18, .tmp 19]) rfl ?_); at_builtin; refine Kd.R_append_rows Kd.string (w0 := w) w.heap.size rfl (.tmp 18) (.tmp 19) 61 9 (.string ⟨#[]⟩) 16 rfl Tryd.underlying61 info9 rfl u31_ u44_ v217 t216 y219 _ _ _ (fun k_ => some k_ ≠ (.slice (some ad215) t212.length co6 : Value).ownBlock ∧ some k_ ≠ (.slice Ao56 y219.length co56 : Value).ownBlock) (fun _ => False) rfl rfl ?aO ?aR (fun _ _ h => h) (fun _ h => h.elim) ?aF ?aB ?aS ?aL ?_; (case aR => repeat (first | exact (Kd.R_reads' HO221.out).2.2 | (with_reducible refine Kd.C_alloc ?_ _) | (with_reducible refine Kd.C_drewN ?_ _) | (with_reducible refine Kd.C_drew ?_))); (case aB => exact u0_); (case aF => exact (fun k_ hk => ⟨Kd.fresh' (Kd.R_lt u9_) k_ hk, Kd.fresh' (Kd.R_lt u33_) k_ hk⟩)); (case aO => exact u45_); (case aS => exact (below_size u0_)); (case aL => have := LMc11.out; omega); intro v223 w55 ho hb hg hat; rw [← Ny222.out] at ho; have n0_ := Aside0.mk (Kd.R_over' u7_ (Kd.R_typed u25_) u31_ hg); have n1_ := Aside0.mk (Kd.R_after (ok := (fun k_ => some k_ ≠ (.slice Ao56 y219.length co56 : Value).ownBlock)) u46_ hg hat); have n2_ := Aside0.mk (Kd.R_after (ok := (fun k_ => some k_ ≠ (.slice (some ad215) t212.length co6 : Value).ownBlock)) u47_ hg hat); have n3_ := Aside0.mk (hb); have n4_ := Aside0.mk (ho); clear HO_4; clear HO_11; clear HO221; clear HB; clear HO218; have HO_4 := n0_; have HO_11 := n1_; have HO221 := n2_; have HB := n3_; have HO224 := n4_; clear n0_ n1_ n2_ n3_ n4_; clear ho hb hg hat; obtain ⟨Ao57, co57, eo57⟩ := Kd.R_slice HO224.out; subst eo57; have p225 : 0 ≤ (0 : Int) := u44_; have q225 : 0 < (y222.length : Int) := of_decide_eq_true u3_; obtain ⟨ad225, e225, hx225_0⟩ := Kd.at_string (Kd.R_reads' HO224.out).2.2 0 p225 q225; cases e225; have qi225 : (0 < y222.length) = True := eq_true u44_; (try rw [show ((0 : Int)).toNat = 0 from rfl] at hx225_0); (try rw [Addr.add_zero'] at hx225_0); replace p225 := eq_true p225; replace q225 := eq_true q225) | ((with_reducible refine gate_dst (N := 8) rfl ?_); refine box_event ?hg (N := 8) ?hd (cs := #[.string (⟨#[]⟩ : ByteArray), .int .i64 0, .int .i64 0]) (t := 75) ?hr ?_; (case hd => rfl); (case hg => rfl); (case hr => first | (go_simp; done) | (go_simp; rfl)); intro gb226 hg w58 hbox hb; have n0_ := Aside0.mk (Kd.R_below (Kd.R_elderB u7_ gb226 (Nat.le_of_eq hg.symm)) hb); have n1_ := Aside0.mk (Kd.R_below u9_ hb); have n2_ := Aside0.mk (Kd.R_below u33_ hb); have n3_ := Aside0.mk (Kd.R_below u59_ hb); have n4_ := Aside0.mk (below_step u0_ hb); have n5_ := Aside0.mk (hbox); have n6_ := Aside0.mk ((by rw [hg]; exact (below_size u0_) : w.heap.size ≤ gb226)); have n7_ := Aside0.mk ((by rw [hg]; exact (below_size u0_) : w.heap.size ≤ gb226)); clear HO_4; clear HO_11; clear HO221; clear HO224; clear HB; have HO_4 := n0_; have HO_11 := n1_; have HO221 := n2_; have HO224 := n3_; have HB := n4_; have BK226 := n5_; have GW226 := n6_; have GE226 := n7_; clear n0_ n1_ n2_ n3_ n4_ n5_ n6_ n7_; clear hb hbox hg; have hcz59_0 : w58.cell? ⟨gb226, 0, none⟩ = some (.string (⟨#[]⟩ : ByteArray)) := (blk_cell BK226.out 0).trans rfl; have hcz59_1 : w58.cell? ⟨gb226, 1, none⟩ = some (.int .i64 0) := (blk_cell BK226.out 1).trans rfl; have hcz59_2 : w58.cell? ⟨gb226, 2, none⟩ = some (.int .i64 0) := (blk_cell BK226.out 2).trans rfl; have hfz59_0 := blk_frozen BK226.out 0; have hfz59_1 := blk_frozen BK226.out 1; have hfz59_2 := blk_frozen BK226.out 2; have p227 : 0 ≤ (1 : Int) := u44_; have q227 : 1 < (y222.length : Int) := of_decide_eq_true u3_; obtain ⟨ad227, e227, hx227_0⟩ := Kd.at_string (Kd.R_reads' HO224.out).2.2 1 p227 q227; obtain rfl : ad225 = ad227 := (by injection e227); (try simp only [show (1 : Int).toNat = 1 from rfl, Nat.reduceMul, Nat.reduceEqDiff, Go.Addr.add, ↓reduceIte] at hx227_0); have qi227 : (1 < y222.length) = True := eq_true u44_; (try rw [show ((1 : Int)).toNat = 1 from rfl] at hx227_0); have hn227_0 : ad225.block ≠ gb226 := u64_; have hn227_1 : ad225.block ≠ gb226 := u64_; have hn227_2 : ad225.block ≠ gb226 := u64_; replace hx227_0 := (cell_far (p := ⟨gb226, 0, none⟩) u54_ (.string (rdOf ByteArray.empty y222 0))).trans hx227_0; replace hx227_0 := (cell_far (p := ⟨gb226, 1, none⟩) u55_ (.int .i64 0)).trans hx227_0; replace hx227_0 := (cell_far (p := ⟨gb226, 2, none⟩) u56_ (.int .i64 0)).trans hx227_0; clear hn227_0; clear hn227_1; clear hn227_2; replace p227 := eq_true p227; replace q227 := eq_true q227) | ((with_reducible refine gate_builtin (b := .append) (xs := #[.tmp 45, .tmp 47]) rfl ?_); at_builtin; refine Kd.R_append k75 (w0 := w) w.heap.size rfl (.tmp 45) (.tmp 47) 34 75 (.agg #[(.string ⟨#[]⟩), (.int .i64 0), (.int .i64 0)]) 32 rfl Tryd.underlying34 info75 rfl u31_ u44_ u4 x4_1 (⟨rdOf ByteArray.empty y222 0, 0, 0⟩ : S75) [.string (rdOf ByteArray.empty y222 0), .int .i64 0, .int .i64 0] (fun k_ => k_ ≠ gb226) (fun _ => False) rfl (by first | (go_simp; done) | (go_simp; rfl)) ?aP (fun _ hk => hk.elim) ?aF ?aO ?aB ?aS ?aL ?_; (case aP => exact k75_mkM _ _ _ (⟨rdOf ByteArray.empty y222 0, 0, 0⟩ : S75)); (case aB => exact u13_); (case aF => exact (fun k_ hk => Kd.freshB (g := gb226) (o := .cells #[.string (rdOf ByteArray.empty y222 0), .int .i64 0, .int .i64 0] 75 (0, 0)) u38_ k_ hk)); (case aO => exact (by (with_reducible repeat (first | apply Kd.R_alloc | apply Kd.R_drewN | apply Kd.R_drew)); exact Kd.R_mono (Kd.R_far (p := ⟨gb226, 2, none⟩) (Kd.R_far (p := ⟨gb226, 1, none⟩) (Kd.R_far (p := ⟨gb226, 0, none⟩) (Kd.R_mono HO_4.out (fun k_ hk => (⟨hk, hk.2⟩ : _ ∧ k_ ≠ gb226))) (fun _ hk => hk.2) (.string (rdOf ByteArray.empty y222 0))) (fun _ hk => hk.2) (.int .i64 0)) (fun _ hk => hk.2) (.int .i64 0)) (fun _ hk => hk.1.2))); (case aS => exact (below_size u13_)); (case aL => have := LMc51.out; omega); intro v241 w60 ho hb hg hat; rw [← Ny240.out] at ho; have n0_ := Aside0.mk (Kd.R_over' (by (with_reducible repeat (first | apply Kd.R_alloc | apply Kd.R_drewN | apply Kd.R_drew)); exact (Kd.R_mono (Kd.R_far (p := ⟨gb226, 2, none⟩) (Kd.R_far (p := ⟨gb226, 1, none⟩) (Kd.R_far (p := ⟨gb226, 0, none⟩) (Kd.R_types HO_11.out BK226.out u31_) (fun _ hk => hk.2) (.string (rdOf ByteArray.empty y222 0))) (fun _ hk => hk.2) (.int .i64 0)) (fun _ hk => hk.2) (.int .i64 0)) (fun _ h_ => h_.1))) (Kd.R_typed u29_) u31_ hg); have n1_ := Aside0.mk (Kd.R_over' (by (with_reducible repeat (first | apply Kd.R_alloc | apply Kd.R_drewN | apply Kd.R_drew)); exact (Kd.R_mono (Kd.R_far (p := ⟨gb226, 2, none⟩) (Kd.R_far (p := ⟨gb226, 1, none⟩) (Kd.R_far (p := ⟨gb226, 0, none⟩) (Kd.R_types HO221.out BK226.out u31_) (fun _ hk => hk.2) (.string (rdOf ByteArray.empty y222 0))) (fun _ hk => hk.2) (.int .i64 0)) (fun _ hk => hk.2) (.int .i64 0)) (fun _ h_ => h_.1))) (Kd.R_typed u29_) u31_ hg); have n2_ := Aside0.mk (Kd.R_over' (by (with_reducible repeat (first | apply Kd.R_alloc | apply Kd.R_drewN | apply Kd.R_drew)); exact (Kd.R_mono (Kd.R_far (p := ⟨gb226, 2, none⟩) (Kd.R_far (p := ⟨gb226, 1, none⟩) (Kd.R_far (p := ⟨gb226, 0, none⟩) (Kd.R_types HO224.out BK226.out u31_) (fun _ hk => hk.2) (.string (rdOf ByteArray.empty y222 0))) (fun _ hk => hk.2) (.int .i64 0)) (fun _ hk => hk.2) (.int .i64 0)) (fun _ h_ => h_.1))) (Kd.R_typed u29_) u31_ hg); have n3_ := Aside0.mk (blk_grown (g := gb226) (o := .cells #[.string (rdOf ByteArray.empty y222 0), .int .i64 0, .int .i64 0] 75 (0, 0)) u38_ hg (Kd.R_away HO_4.out (fun _ hk => hk.2))); have n4_ := Aside0.mk (hb); have n5_ := Aside0.mk (ho); clear HO_11; clear HO221; clear HO224; clear BK226; clear HB; clear HO_4; have HO_11 := n0_; have HO221 := n1_; have HO224 := n2_; have BK226 := n3_; have HB := n4_; have HO242 := n5_; clear n0_ n1_ n2_ n3_ n4_ n5_; clear ho hb hg hat))
             go_roundg k1
             case measure => have := HK1.out; omega
             case rel => exact ⟨(y240), (wrap64 (x13_1 + 1)), u10_, H', ⟨u48_⟩, ⟨by (with_reducible repeat (first | apply Kd.R_alloc | apply Kd.R_drewN | apply Kd.R_drew)); exact Kd.R_mono HO242.out (fun _ hk => trivial)⟩, ⟨u51_⟩, ⟨u13_⟩⟩
            ·rw [if_neg c51] at H
             exact absurd H u43_
        ·rw [if_neg c13] at H
         exact absurd H u43_
       ·rw [if_neg c12] at H
        exact absurd H u43_
      ·rw [if_neg c11] at H
       exact absurd H u43_
     ·rw [if_neg c9] at H
      exact absurd H u43_
    ·rw [if_neg c8] at H
     exact absurd H u43_
   ·rw [if_neg c7] at H
    have c7b0 : decide (x13_1 < (t212.length : Int)) = false := decide_eq_false c7
    clear c7
    replace H := Option.bind_eq_some_iff.mp H
    obtain ⟨t243, A610, H⟩ := H
    replace H : (if t243 = true then ((impl_FieldsPut.f k1 x4_1).bind fun t244 => (if t244.toList = a0.toList then (some (x4_1, true)) else (some ((([] : List (S75))), false)))) else (some ((([] : List (S75))), false))) = some (r1, r2) := H
    have A61 := Aside0.mk A610
    clear A610
    by_cases c62 : t243 = true
    ·subst c62
     have H1 : ((impl_FieldsPut.f k1 x4_1).bind fun t244 => (if t244.toList = a0.toList then (some (x4_1, true)) else (some ((([] : List (S75))), false)))) = some (r1, r2) := by rw [if_pos rfl] at H; exact H
     clear H
     have H := H1
     clear H1
     replace H := Option.bind_eq_some_iff.mp H
     obtain ⟨t244, A630, H⟩ := H
     replace H : (if t244.toList = a0.toList then (some (x4_1, true)) else (some ((([] : List (S75))), false))) = some (r1, r2) := H
     have A63 := Aside0.mk A630
     clear A630
     by_cases c64 : t244.toList = a0.toList
     ·rw [if_pos c64] at H
      have c64b0 : (t244.toList == a0.toList) = true := beq_iff_eq.mpr c64
      have c64b1 : (t244.toList != a0.toList) = false := bne_eq_false_iff_eq.mpr c64
      clear c64
      simp only [Option.some.injEq, Prod.mk.injEq] at H
      obtain ⟨rfl, rfl⟩ := H
      obtain ⟨Ao65, co65, eo65⟩ := Kd.R_slice HO_4.out
      subst eo65
      go_wp2_with (first | ((with_reducible refine gate_callee (f := 28) rfl ?_); refine goesL_ (some 51) rfl rfl Tryd.func28 u20_ rfl #[.slice Ao65 x4_1.length co65] rfl u1_ ?_; (with_reducible refine (impl_FieldsOk.calls k1 _ _ x4_1 true _ ?side1 ?side2 A61.out).mono ?_); (case side1 => repeat (first | exact (Kd.R_reads' HO_4.out).2.2 | (with_reducible refine Kd.C_alloc ?_ _) | (with_reducible refine Kd.C_drewN ?_ _) | (with_reducible refine Kd.C_drew ?_))); (case side2 => exact (Kd.R_reads' HO_4.out).2.1); rintro e w66 ⟨rfl, hb⟩; refine ⟨_, rfl, ?_⟩; have n0_ := Aside0.mk (Kd.R_below u7_ hb); have n1_ := Aside0.mk (Kd.R_below u9_ hb); have n2_ := Aside0.mk (below_step u0_ hb); clear HO_4; clear HO_11; clear HB; have HO_4 := n0_; have HO_11 := n1_; have HB := n2_; clear n0_ n1_ n2_; (try clear hb); (try clear hb2); (try clear hk); (try clear hi)) | (go_at_call 30; (with_reducible refine (impl_FieldsPut.calls k1 _ _ x4_1 t244 _ ?side1 ?side2 ?side3 A63.out).mono ?_); (case side1 => exact StopsIn.below HG_.out u0_); (case side2 => repeat (first | exact (Kd.R_reads' HO_4.out).2.2 | (with_reducible refine Kd.C_alloc ?_ _) | (with_reducible refine Kd.C_drewN ?_ _) | (with_reducible refine Kd.C_drew ?_))); (case side3 => exact (Kd.R_reads' HO_4.out).2.1); rintro e w67 ⟨rfl, hb⟩; have n0_ := Aside0.mk (Kd.R_below u7_ hb); have n1_ := Aside0.mk (Kd.R_below u9_ hb); have n2_ := Aside0.mk (below_step u0_ hb); clear HO_4; clear HO_11; clear HB; have HO_4 := n0_; have HO_11 := n1_; have HB := n2_; clear n0_ n1_ n2_; (try clear hb); (try clear hb2); (try clear hk); (try clear hi)))
      go_ret2
      exact ⟨_, u4_, u7_, u0_⟩
     ·rw [if_neg c64] at H
      have c64b0 : (t244.toList == a0.toList) = false := beq_eq_false_iff_ne.mpr c64
      have c64b1 : (t244.toList != a0.toList) = true := bne_iff_ne.mpr c64
      obtain ⟨y245, hy245⟩ : ∃ y_ : List (S75), y_ = (([] : List (S75))) := ⟨_, rfl⟩
      replace H : (some (y245, false)) = some (r1, r2) := by first | (rw [hy245]; with_reducible exact H) | (have H2_ := (Option.bind_some _ _).symm.trans H; rw [hy245]; with_reducible exact H2_) | (have H2_ := (Option.bind_some _ _).symm.trans H; with_reducible exact H2_) | with_reducible exact H | (rw [hy245]; exact H) | exact H
      have Ny245 := Aside0.mk hy245
      clear hy245
      simp only [Option.some.injEq, Prod.mk.injEq] at H
      obtain ⟨rfl, rfl⟩ := H
      obtain ⟨Ao68, co68, eo68⟩ := Kd.R_slice HO_4.out
      subst eo68
      go_wp2_with (first | ((with_reducible refine gate_callee (f := 28) rfl ?_); refine goesL_ (some 51) rfl rfl Tryd.func28 u20_ rfl #[.slice Ao68 x4_1.length co68] rfl u1_ ?_; (with_reducible refine (impl_FieldsOk.calls k1 _ _ x4_1 true _ ?side1 ?side2 A61.out).mono ?_); (case side1 => repeat (first | exact (Kd.R_reads' HO_4.out).2.2 | (with_reducible refine Kd.C_alloc ?_ _) | (with_reducible refine Kd.C_drewN ?_ _) | (with_reducible refine Kd.C_drew ?_))); (case side2 => exact (Kd.R_reads' HO_4.out).2.1); rintro e w69 ⟨rfl, hb⟩; refine ⟨_, rfl, ?_⟩; have n0_ := Aside0.mk (Kd.R_below u7_ hb); have n1_ := Aside0.mk (Kd.R_below u9_ hb); have n2_ := Aside0.mk (below_step u0_ hb); clear HO_4; clear HO_11; clear HB; have HO_4 := n0_; have HO_11 := n1_; have HB := n2_; clear n0_ n1_ n2_; (try clear hb); (try clear hb2); (try clear hk); (try clear hi)) | (go_at_call 30; (with_reducible refine (impl_FieldsPut.calls k1 _ _ x4_1 t244 _ ?side1 ?side2 ?side3 A63.out).mono ?_); (case side1 => exact StopsIn.below HG_.out u0_); (case side2 => repeat (first | exact (Kd.R_reads' HO_4.out).2.2 | (with_reducible refine Kd.C_alloc ?_ _) | (with_reducible refine Kd.C_drewN ?_ _) | (with_reducible refine Kd.C_drew ?_))); (case side3 => exact (Kd.R_reads' HO_4.out).2.1); rintro e w70 ⟨rfl, hb⟩; have n0_ := Aside0.mk (Kd.R_below u7_ hb); have n1_ := Aside0.mk (Kd.R_below u9_ hb); have n2_ := Aside0.mk (below_step u0_ hb); clear HO_4; clear HO_11; clear HB; have HO_4 := n0_; have HO_11 := n1_; have HB := n2_; clear n0_ n1_ n2_; (try clear hb); (try clear hb2); (try clear hk); (try clear hi)) | ((with_reducible refine gate_dst (N := 59) rfl ?_); refine Kd.R_lit k75 _ 75 ?hg (N := 59) ?hd (xs := ([] : List (S75))) (inner := []) (ok := fun _ => True) (okp := fun _ => True) ?hr ?hp (fun _ hk => hk) trivial (Below.refl _ _) (Nat.le_refl _) u43_ ?_; (case hd => rfl); (case hg => rfl); (case hr => first | (go_simp; done) | (go_simp; rfl)); (case hp => exact (Reps.none _ _)); intro v246 w71 ho72 hb hg_ hnew_; clear hg_ hnew_; (first | rw [← Ny245.out] at ho72 | (simp only [Int.reduceToNat] at ho72; rw [← Ny245.out] at ho72)); have n0_ := Aside0.mk (Kd.R_elder' u7_ (Kd.R_base ho72) hb); have n1_ := Aside0.mk (Kd.R_below u9_ hb); have n2_ := Aside0.mk (Kd.R_lower (Kd.R_new' ho72 (Kd.R_lt u7_)) (below_size u0_)); have n3_ := Aside0.mk (below_step u0_ hb); clear HO_4; clear HO_11; clear HB; have HO_4 := n0_; have HO_11 := n1_; have HO247 := n2_; have HB := n3_; clear n0_ n1_ n2_ n3_; clear hb ho72))
      go_ret2
      exact ⟨_, u4_, by (with_reducible repeat (first | apply Kd.R_alloc | apply Kd.R_drewN | apply Kd.R_drew)); exact Kd.R_mono HO247.out (fun _ hk => trivial), u0_⟩
    ·replace c62 := Bool.eq_false_iff.mpr c62
     subst c62
     have H1 : (some ((([] : List (S75))), false)) = some (r1, r2) := by rw [if_neg (show ¬ (false = true) by decide)] at H; exact H
     clear H
     have H := H1
     clear H1
     obtain ⟨y248, hy248⟩ : ∃ y_ : List (S75), y_ = (([] : List (S75))) := ⟨_, rfl⟩
     replace H : (some (y248, false)) = some (r1, r2) := by first | (rw [hy248]; with_reducible exact H) | (have H2_ := (Option.bind_some _ _).symm.trans H; rw [hy248]; with_reducible exact H2_) | (have H2_ := (Option.bind_some _ _).symm.trans H; with_reducible exact H2_) | with_reducible exact H | (rw [hy248]; exact H) | exact H
     have Ny248 := Aside0.mk hy248
     clear hy248
     simp only [Option.some.injEq, Prod.mk.injEq] at H
     obtain ⟨rfl, rfl⟩ := H
     obtain ⟨Ao73, co73, eo73⟩ := Kd.R_slice HO_4.out
     subst eo73
     go_wp2_with (first | ((with_reducible refine gate_callee (f := 28) rfl ?_); refine goesL_ (some 51) rfl rfl Tryd.func28 u20_ rfl #[.slice Ao73 x4_1.length co73] rfl u1_ ?_; (with_reducible refine (impl_FieldsOk.calls k1 _ _ x4_1 false _ ?side1 ?side2 A61.out).mono ?_); (case side1 => repeat (first | exact (Kd.R_reads' HO_4.out).2.2 | (with_reducible refine Kd.C_alloc ?_ _) | (with_reducible refine Kd.C_drewN ?_ _) | (with_reducible refine Kd.C_drew ?_))); (case side2 => exact (Kd.R_reads' HO_4.out).2.1); rintro e w74 ⟨rfl, hb⟩; refine ⟨_, rfl, ?_⟩; have n0_ := Aside0.mk (Kd.R_below u7_ hb); have n1_ := Aside0.mk (Kd.R_below u9_ hb); have n2_ := Aside0.mk (below_step u0_ hb); clear HO_4; clear HO_11; clear HB; have HO_4 := n0_; have HO_11 := n1_; have HB := n2_; clear n0_ n1_ n2_; (try clear hb); (try clear hb2); (try clear hk); (try clear hi)) | ((with_reducible refine gate_dst (N := 59) rfl ?_); refine Kd.R_lit k75 _ 75 ?hg (N := 59) ?hd (xs := ([] : List (S75))) (inner := []) (ok := fun _ => True) (okp := fun _ => True) ?hr ?hp (fun _ hk => hk) trivial (Below.refl _ _) (Nat.le_refl _) u43_ ?_; (case hd => rfl); (case hg => rfl); (case hr => first | (go_simp; done) | (go_simp; rfl)); (case hp => exact (Reps.none _ _)); intro v249 w75 ho76 hb hg_ hnew_; clear hg_ hnew_; (first | rw [← Ny248.out] at ho76 | (simp only [Int.reduceToNat] at ho76; rw [← Ny248.out] at ho76)); have n0_ := Aside0.mk (Kd.R_elder' u7_ (Kd.R_base ho76) hb); have n1_ := Aside0.mk (Kd.R_below u9_ hb); have n2_ := Aside0.mk (Kd.R_lower (Kd.R_new' ho76 (Kd.R_lt u7_)) (below_size u0_)); have n3_ := Aside0.mk (below_step u0_ hb); clear HO_4; clear HO_11; clear HB; have HO_4 := n0_; have HO_11 := n1_; have HO250 := n2_; have HB := n3_; clear n0_ n1_ n2_ n3_; clear hb ho76))
     go_ret2
     exact ⟨_, u4_, by (with_reducible repeat (first | apply Kd.R_alloc | apply Kd.R_drewN | apply Kd.R_drew)); exact Kd.R_mono HO250.out (fun _ hk => trivial), u0_⟩

/-- A state of type 99 at block g of W; what its slices lead to came in by w0. -/
def IsS99 (w0 W : World) (g : Nat) (f0 : List Int) (f1 : Int) : Prop := ∃ A0 c0, W.heap[g]? = some (.cells #[.slice A0 f0.length c0, .int .i64 f1] 99 (0, 0)) ∧ w0.heap.size ≤ g ∧ Kd.C (Kd.int .u8) w0 A0 f0.length f0
theorem IsS99.grown {w0 W : World} {g : Nat} {f0 : List Int} {f1 : Int} {W1 : World} {row : Option Nat} (h : IsS99 w0 W g f0 f1) (hw : W.grownBy W1 row) (hne : some g ≠ row) : IsS99 w0 W1 g f0 f1 := by
 obtain ⟨A0, c0, hb, hg, hr0⟩ := h
 exact ⟨A0, c0, blk_grown hb hw hne, hg, hr0⟩
theorem IsS99.own_neN {w0 W : World} {g : Nat} {f0 : List Int} {f1 : Int} {α : Type} {d : Kd α} {e : Nat} {base : Nat} {ok : Nat → Prop} {v : Value} {xs : List α} (h : IsS99 w0 W g f0 f1) (ho : Kd.N d e W base ok v xs) (ht : e ≠ 99) : some g ≠ v.ownBlock := by
 obtain ⟨A0, c0, hb, hg, hr0⟩ := h
 exact Kd.N_ne ho hb ht
theorem IsS99.fresh {w0 W : World} {g : Nat} {f0 : List Int} {f1 : Int} (h : IsS99 w0 W g f0 f1) : ∀ k, W.heap.size ≤ k → k ≠ g := by
 obtain ⟨A0, c0, hb, hg, hr0⟩ := h
 exact Kd.freshB hb
theorem IsS99.kept {w0 W : World} {g : Nat} {f0 : List Int} {f1 : Int} {W1 : World} {S : Nat → Prop} (h : IsS99 w0 W g f0 f1) (hk : Kept W W1 S) (hne : ¬ S g) : IsS99 w0 W1 g f0 f1 := by
 obtain ⟨A0, c0, hb, hg, hr0⟩ := h
 exact ⟨A0, c0, blk_kept hb hk hne, hg, hr0⟩
theorem IsS99.below {w0 W : World} {g : Nat} {f0 : List Int} {f1 : Int} {W1 : World} (h : IsS99 w0 W g f0 f1) (hw : Below W.heap.size W W1) : IsS99 w0 W1 g f0 f1 := h.grown (grown_of_below hw none) u43_
theorem IsS99.alloc {w0 W : World} {g : Nat} {f0 : List Int} {f1 : Int} (h : IsS99 w0 W g f0 f1) (o : Obj) : IsS99 w0 (W.alloc o) g f0 f1 := h.below (below_alloc (Below.refl _ _) o)
theorem IsS99.drewN {w0 W : World} {g : Nat} {f0 : List Int} {f1 : Int} (h : IsS99 w0 W g f0 f1) (m : Nat) : IsS99 w0 (W.drewN m) g f0 f1 := h
theorem IsS99.drew {w0 W : World} {g : Nat} {f0 : List Int} {f1 : Int} (h : IsS99 w0 W g f0 f1) : IsS99 w0 W.drew g f0 f1 := h
theorem IsS99.at_ {w0 W : World} {g : Nat} {f0 : List Int} {f1 : Int} {w' : World} {m : Nat} (hq : W.drewN m = w') (h : IsS99 w0 W g f0 f1) : IsS99 w0 w' g f0 f1 := by subst hq; exact IsS99.drewN h m
theorem IsS99.apart {w0 W : World} {g : Nat} {f0 : List Int} {f1 : Int} {α : Type} {d : Kd α} {e : Nat} {base : Nat} {ok : Nat → Prop} {v : Value} {xs : List α} (h : IsS99 w0 W g f0 f1) (ho : d.R e W base ok v xs) (ht : ∀ q, q ∈ e :: d.E → q ≠ 99) : d.R e W base (fun k => ok k ∧ k ≠ g) v xs := by
 obtain ⟨A0, c0, hb, hg, hr0⟩ := h
 exact Kd.R_types ho hb ht
theorem IsS99.own_ne {w0 W : World} {g : Nat} {f0 : List Int} {f1 : Int} {α : Type} {d : Kd α} {e : Nat} {base : Nat} {ok : Nat → Prop} {v : Value} {xs : List α} (h : IsS99 w0 W g f0 f1) (ho : d.R e W base ok v xs) (ht : e ≠ 99) : some g ≠ v.ownBlock := by
 obtain ⟨A0, c0, hb, hg, hr0⟩ := h
 exact Kd.R_ne ho hb ht
theorem IsS99.apartQ {w0 W : World} {g : Nat} {f0 : List Int} {f1 : Int} {α : Type} {d : Kd α} {e : Nat} {base : Nat} {ok : Nat → Prop} {v : Value} {xs : List α} (h : IsS99 w0 W g f0 f1) (ho : d.Q e W base ok v xs) (ht : ∀ q, q ∈ e :: d.E → q ≠ 99) : d.Q e W base (fun k => ok k ∧ k ≠ g) v xs := by
 obtain ⟨A0, c0, hb, hg, hr0⟩ := h
 exact Kd.Q_types ho hb ht
theorem IsS99.own_neQ {w0 W : World} {g : Nat} {f0 : List Int} {f1 : Int} {α : Type} {d : Kd α} {e : Nat} {base : Nat} {ok : Nat → Prop} {v : Value} {xs : List α} (h : IsS99 w0 W g f0 f1) (ho : d.Q e W base ok v xs) (ht : e ≠ 99) : some g ≠ v.ownBlock := by
 obtain ⟨A0, c0, hb, hg, hr0⟩ := h
 exact Kd.Q_ne ho hb ht
theorem IsS99.apartS {w0 W : World} {g : Nat} {f0 : List Int} {f1 : Int} {α : Type} {d : Kd α} {e : Nat} {base : Nat} {ok : Nat → Prop} {v : Value} {xs : List α} (h : IsS99 w0 W g f0 f1) (ho : d.S e W base ok v xs) (ht : ∀ q, q ∈ e :: d.E → q ≠ 99) : d.S e W base (fun k => ok k ∧ k ≠ g) v xs := by
 obtain ⟨A0, c0, hb, hg, hr0⟩ := h
 exact Kd.S_types ho hb ht
theorem IsS99.own_neS {w0 W : World} {g : Nat} {f0 : List Int} {f1 : Int} {α : Type} {d : Kd α} {e : Nat} {base : Nat} {ok : Nat → Prop} {v : Value} {xs : List α} (h : IsS99 w0 W g f0 f1) (ho : d.S e W base ok v xs) (ht : e ≠ 99) : some g ≠ v.ownBlock := by
 obtain ⟨A0, c0, hb, hg, hr0⟩ := h
 exact Kd.S_ne ho hb ht
theorem IsS99.lt {w0 W : World} {g : Nat} {f0 : List Int} {f1 : Int} (h : IsS99 w0 W g f0 f1) : g < W.heap.size := by
 obtain ⟨A0, c0, hb, hg, hr0⟩ := h
 exact blk_lt hb
theorem IsS99.ge {w0 W : World} {g : Nat} {f0 : List Int} {f1 : Int} (h : IsS99 w0 W g f0 f1) : w0.heap.size ≤ g := by
 obtain ⟨A0, c0, hb, hg, hr0⟩ := h
 exact hg
theorem IsS99.ne_blk {w0 W : World} {g : Nat} {f0 : List Int} {f1 : Int} {a : Nat} {cs : Array Value} {t : TypeId} {fr : Nat × Nat} (h : IsS99 w0 W g f0 f1) (hb2 : W.heap[a]? = some (.cells cs t fr)) (ht : t ≠ 99) : g ≠ a := by
 obtain ⟨A0, c0, hb, hg, hr0⟩ := h
 rintro rfl
 rw [hb] at hb2
 injection hb2 with hb2
 injection hb2 with _ ht2
 exact ht ht2.symm
theorem IsS99.far {w0 W : World} {g : Nat} {f0 : List Int} {f1 : Int} {p : Addr} (h : IsS99 w0 W g f0 f1) (hne : g ≠ p.block) (u : Value) : IsS99 w0 (W.setCell p u) g f0 f1 := by
 obtain ⟨A0, c0, hb, hg, hr0⟩ := h
 exact ⟨A0, c0, blk_far hb hne u, hg, hr0⟩
theorem cellS99_0 {W : World} {g : Nat} {A0 : Option Addr} {c0 : Nat} {f0 : List Int} {f1 : Int} (h : W.heap[g]? = some (.cells #[.slice A0 f0.length c0, .int .i64 f1] 99 (0, 0))) : W.cell? ⟨g, 0, none⟩ = some (.slice A0 f0.length c0) := (blk_cell h 0).trans rfl
theorem cellS99_1 {W : World} {g : Nat} {A0 : Option Addr} {c0 : Nat} {f0 : List Int} {f1 : Int} (h : W.heap[g]? = some (.cells #[.slice A0 f0.length c0, .int .i64 f1] 99 (0, 0))) : W.cell? ⟨g, 1, none⟩ = some (.int .i64 f1) := (blk_cell h 1).trans rfl
theorem IsS99.set_1 {w0 W : World} {g : Nat} {f0 : List Int} {f1 : Int} (h : IsS99 w0 W g f0 f1) (x : Int) : IsS99 w0 (W.setCell ⟨g, 1, none⟩ (.int .i64 x)) g f0 x := by
 obtain ⟨A0, c0, hb, hg, hr0⟩ := h
 exact ⟨A0, c0, by simpa using blk_set hb 1 (.int .i64 x), hg, hr0⟩
theorem IsS99.new (w0 W : World) (A0 : Option Addr) (c0 : Nat) (f0 : List Int) (f1 : Int) (hB : Below w0.heap.size w0 W) (hr0 : Kd.C (Kd.int .u8) w0 A0 f0.length f0) : IsS99 w0 (W.alloc (.cells #[.slice A0 f0.length c0, .int .i64 f1] 99)) W.heap.size f0 f1 := ⟨A0, c0, by simpa using heap_alloc_new W _, hB.size, hr0⟩

/-! ### spec_l1Open: function 47 -/
def spec_l1Open.f (l0 : List Int) : Option (List Int × Int) := if (l0.length : Int) > 2000 then (if 2000 ≤ (l0.length : Int) then (some (l0.take 2000, 0)) else (none)) else (some (l0, 0))
set_option maxHeartbeats 8000000 in
set_option maxRecDepth 100000 in
theorem spec_l1Open.calls (A0 : Option Addr) (c0 : Nat) (l0 : List Int) (r1 : List Int) (r2 : Int) (w0 w : World) (hB : Below w0.heap.size w0 w) (hr0 : Kd.C (Kd.int .u8) w0 A0 l0.length l0) (hc0 : l0.length ≤ c0) (h : spec_l1Open.f l0 = some (r1, r2)) :
  Calls Tryd.prog 47 #[.slice A0 l0.length c0] w fun e w' => ∃ g_ : Nat, e = .returned (.pointer (some ⟨g_, 0, none⟩)) ∧ IsS99 w0 w' g_ r1 r2 ∧ Below w0.heap.size w0 w' ∧ Below w.heap.size w w' := by
 have hu99 := Tryd.underlying99
 have HR0 := Aside0.mk hr0
 have HC0 := Aside0.mk hc0
 clear hr0 hc0
 have HBW := Aside0.mk (Below.refl w.heap.size w)
 have HW0 := Aside0.mk hB.size
 have HB := Aside0.mk hB
 clear hB
 have H : (if (l0.length : Int) > 2000 then (if 2000 ≤ (l0.length : Int) then (some (l0.take 2000, 0)) else (none)) else (some (l0, 0))) = some (r1, r2) := h
 clear h
 by_cases c2 : (l0.length : Int) > 2000
 ·rw [if_pos c2] at H
  have c2b0 : decide (2000 < (l0.length : Int)) = true := decide_eq_true c2
  have c2b1 : decide (2000 < l0.length) = true := decide_eq_true u44_
  clear c2
  by_cases c3 : 2000 ≤ (l0.length : Int)
  ·rw [if_pos c3] at H
   have c3b0 := eq_true c3
   have c3b1 : decide (2000 ≤ (l0.length : Int)) = true := decide_eq_true c3
   clear c3
   simp only [Option.some.injEq, Prod.mk.injEq] at H
   obtain ⟨rfl, rfl⟩ := H
   obtain ⟨i04, hi04, _, hsz4, _⟩ := info_parts info5
   obtain ⟨hcut4, hA4, hC4⟩ := print_take_of (P := Tryd.prog) (Value.int .u8) 0 28 5 .i64 Tryd.underlying28 hi04 hsz4 A0 c0 l0 2000 u44_ (of_decide_eq_true u3_) HC0.out
   have HR251 := Aside0.mk (Kd.C_of_reads (h1 := fun _ => rfl) (hA4 _ (Kd.reads_of_C HR0.out)))
   have HC251 := Aside0.mk hC4
   clear hA4 hC4 hi04 hsz4
   go_enter Tryd.func47, Tryd.ntmps47
   go_wp2_with (first | ((with_reducible refine gate_dst (N := 10) rfl ?_); refine box_event ?hg (N := 10) ?hd (cs := #[.slice A0 (l0.take 2000).length c0, .int .i64 0]) (t := 99) ?hr ?_; (case hd => rfl); (case hg => rfl); (case hr => first | (go_simp; done) | (go_simp; rfl)); intro gb252 hg w5 hbox hb; have n0_ := Aside0.mk (below_step HBW.out hb); have n1_ := Aside0.mk (below_step u0_ hb); have n2_ := Aside0.mk (hbox); have n3_ := Aside0.mk ((by rw [hg]; exact (below_size u52_) : w.heap.size ≤ gb252)); have n4_ := Aside0.mk ((Nat.le_trans HW0.out (by rw [hg]; exact (below_size u52_) : w.heap.size ≤ gb252) : w0.heap.size ≤ gb252)); clear HBW; clear HB; have HBW := n0_; have HB := n1_; have BK252 := n2_; have GW252 := n3_; have GE252 := n4_; clear n0_ n1_ n2_ n3_ n4_; clear hb hbox hg))
   go_ret
   exact ⟨_, rfl, (show IsS99 w0 _ gb252 (l0.take 2000) 0 from ⟨_, _, by (with_reducible repeat (first | refine blk_drewN ?_ _ | refine blk_drew ?_ | refine blk_alloc ?_ _)); exact BK252.out, GE252.out, HR251.out⟩), by repeat (first | (with_reducible first | exact HB.out | apply below_alloc | apply pw_below_drewN | apply below_drew1 | refine below_set ?_ GE252.out) | exact HB.out), by repeat (first | (with_reducible first | exact HBW.out | apply below_alloc | apply pw_below_drewN | apply below_drew1 | refine below_set ?_ GW252.out) | exact HBW.out)⟩
  ·rw [if_neg c3] at H
   exact absurd H u43_
 ·rw [if_neg c2] at H
  have c2b0 : decide (2000 < (l0.length : Int)) = false := decide_eq_false c2
  have c2b1 : decide (2000 < l0.length) = false := decide_eq_false u44_
  clear c2
  simp only [Option.some.injEq, Prod.mk.injEq] at H
  obtain ⟨rfl, rfl⟩ := H
  go_enter Tryd.func47, Tryd.ntmps47
  go_wp2_with (first | ((with_reducible refine gate_dst (N := 10) rfl ?_); refine box_event ?hg (N := 10) ?hd (cs := #[.slice A0 l0.length c0, .int .i64 0]) (t := 99) ?hr ?_; (case hd => rfl); (case hg => rfl); (case hr => first | (go_simp; done) | (go_simp; rfl)); intro gb253 hg w6 hbox hb; have n0_ := Aside0.mk (below_step HBW.out hb); have n1_ := Aside0.mk (below_step u0_ hb); have n2_ := Aside0.mk (hbox); have n3_ := Aside0.mk ((by rw [hg]; exact (below_size u52_) : w.heap.size ≤ gb253)); have n4_ := Aside0.mk ((Nat.le_trans HW0.out (by rw [hg]; exact (below_size u52_) : w.heap.size ≤ gb253) : w0.heap.size ≤ gb253)); clear HBW; clear HB; have HBW := n0_; have HB := n1_; have BK253 := n2_; have GW253 := n3_; have GE253 := n4_; clear n0_ n1_ n2_ n3_ n4_; clear hb hbox hg))
  go_ret
  exact ⟨_, rfl, (show IsS99 w0 _ gb253 l0 0 from ⟨_, _, by (with_reducible repeat (first | refine blk_drewN ?_ _ | refine blk_drew ?_ | refine blk_alloc ?_ _)); exact BK253.out, GE253.out, HR0.out⟩), by repeat (first | (with_reducible first | exact HB.out | apply below_alloc | apply pw_below_drewN | apply below_drew1 | refine below_set ?_ GE253.out) | exact HB.out), by repeat (first | (with_reducible first | exact HBW.out | apply below_alloc | apply pw_below_drewN | apply below_drew1 | refine below_set ?_ GW253.out) | exact HBW.out)⟩

end Go.Proofs.YtelcdhjdlgedeaaDoor.PFnFields
