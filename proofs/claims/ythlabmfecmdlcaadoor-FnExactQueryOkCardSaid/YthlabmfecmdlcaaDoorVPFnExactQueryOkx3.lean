/- Contracts of Go functions that the law FnExactQueryOk reaches: each is told as a plain Lean function, with the walk that shows it; no condition beyond what each states. Written by a program of this session round the kit's printer. -/
import Derived.Test.YthlabmfecmdlcaaDoorVPFnExactQueryOkx0
import Derived.Test.YthlabmfecmdlcaaDoorVPFnExactQueryOkx2
namespace Go.Proofs.YthlabmfecmdlcaaDoor.PFnExactQueryOk
open Go.RowKit Go.Proofs.YthlabmfecmdlcaaDoorW.PrintWords Go.Proofs.YthlabmfecmdlcaaDoorW.PrintLast Go.Proofs.YthlabmfecmdlcaaDoorW.PrintMore
attribute [local go_sem] isSome_setCell run_str_geq run_str_leq max2_int min2_int max_two min_two max_three min_three max_four min_four   -- for this text's walks alone
set_option linter.unusedVariables false
set_option linter.unusedSimpArgs false

/-! ### spec_Stem: function 24 -/
mutual
def spec_Stem.j0 : Nat → ByteArray → Option (ByteArray)
 | 0, _ => none
 | k + 1, x3 => if (x3.size : Int) > 3 then (if 0 ≤ (wrap64 ((x3.size : Int) - 1)) then (if (wrap64 ((x3.size : Int) - 1)) < (x3.size : Int) then (if (bt x3 (wrap64 ((x3.size : Int) - 1))) = 115 then (if 0 ≤ (wrap64 ((x3.size : Int) - 2)) then (if (wrap64 ((x3.size : Int) - 2)) < (x3.size : Int) then (spec_Stem.j1 k x3 (x3.size : Int) ((bt x3 (wrap64 ((x3.size : Int) - 2))) != 115)) else (none)) else (none)) else (spec_Stem.j1 k x3 (x3.size : Int) false)) else (none)) else (none)) else (spec_Stem.j1 k x3 (x3.size : Int) false)
def spec_Stem.j1 : Nat → ByteArray → Int → Bool → Option (ByteArray)
 | 0, _, _, _ => none
 | k + 1, x3, x4, x29 => if x29 = true then (if 0 ≤ (wrap64 (x4 - 1)) then (if (wrap64 (x4 - 1)) ≤ (x3.size : Int) then ((spec_l1Stop.f k (x3.extract 0 ((wrap64 (x4 - 1)) : Int).toNat)).bind fun t134 => (if t134 = true then (some (⟨#[]⟩ : ByteArray)) else (some (x3.extract 0 ((wrap64 (x4 - 1)) : Int).toNat)))) else (none)) else (none)) else ((spec_l1Stop.f k x3).bind fun t135 => (if t135 = true then (some (⟨#[]⟩ : ByteArray)) else (some x3)))
end
def spec_Stem.f (k : Nat) (a0 : ByteArray) : Option (ByteArray) := (spec_Fold.f k a0).bind fun t133 => (if (t133.size : Int) > 12 then (if 0 ≤ 12 then (if 12 ≤ (t133.size : Int) then (spec_Stem.j0 k (t133.extract 0 12)) else (none)) else (none)) else (spec_Stem.j0 k t133))
theorem spec_Stem.mono_l : ∀ k, (∀ y0, LeO (spec_Stem.j0 k y0) (spec_Stem.j0 (k + 1) y0)) ∧ (∀ y0 y1 y2, LeO (spec_Stem.j1 k y0 y1 y2) (spec_Stem.j1 (k + 1) y0 y1 y2))
 | 0 => ⟨fun _ r h => by simp [spec_Stem.j0] at h, fun _ _ _ r h => by simp [spec_Stem.j1] at h⟩
 | k + 1 => by
  obtain ⟨ih0, ih1⟩ := spec_Stem.mono_l k; refine ⟨?_, ?_⟩
  ·intro y0; unfold spec_Stem.j0
   repeat' first
   | (with_reducible exact ih0 _)
   | (with_reducible exact ih1 _ _ _)
   | (with_reducible exact spec_Fold.mono _ _)
   | (with_reducible exact spec_l1Stop.mono _ _)
   | (with_reducible exact LeO.refl _)
   | (with_reducible exact LeO.none _)
   | (with_reducible refine LeO.ite ?_ ?_)
   | (with_reducible refine LeO.bind ?_ (fun _ => ?_))
   | exact ih0 _
   | exact ih1 _ _ _
   | exact spec_Fold.mono _ _
   | exact spec_l1Stop.mono _ _
   | exact LeO.none _
   | refine LeO.ite ?_ ?_
   | refine LeO.bind ?_ (fun _ => ?_)
  ·intro y0 y1 y2; unfold spec_Stem.j1
   repeat' first
   | (with_reducible exact ih0 _)
   | (with_reducible exact ih1 _ _ _)
   | (with_reducible exact spec_Fold.mono _ _)
   | (with_reducible exact spec_l1Stop.mono _ _)
   | (with_reducible exact LeO.refl _)
   | (with_reducible exact LeO.none _)
   | (with_reducible refine LeO.ite ?_ ?_)
   | (with_reducible refine LeO.bind ?_ (fun _ => ?_))
   | exact ih0 _
   | exact ih1 _ _ _
   | exact spec_Fold.mono _ _
   | exact spec_l1Stop.mono _ _
   | exact LeO.none _
   | refine LeO.ite ?_ ?_
   | refine LeO.bind ?_ (fun _ => ?_)
theorem spec_Stem.mono : ∀ a0 k, LeO (spec_Stem.f k a0) (spec_Stem.f (k + 1) a0) := by
 intro a0 k; obtain ⟨ih0, ih1⟩ := spec_Stem.mono_l k; unfold spec_Stem.f
 repeat' first
   | (with_reducible exact ih0 _)
   | (with_reducible exact ih1 _ _ _)
   | (with_reducible exact spec_Fold.mono _ _)
   | (with_reducible exact spec_l1Stop.mono _ _)
   | (with_reducible exact LeO.refl _)
   | (with_reducible exact LeO.none _)
   | (with_reducible refine LeO.ite ?_ ?_)
   | (with_reducible refine LeO.bind ?_ (fun _ => ?_))
   | exact ih0 _
   | exact ih1 _ _ _
   | exact spec_Fold.mono _ _
   | exact spec_l1Stop.mono _ _
   | exact LeO.none _
   | refine LeO.ite ?_ ?_
   | refine LeO.bind ?_ (fun _ => ?_)
set_option maxHeartbeats 8000000 in
set_option maxRecDepth 100000 in
theorem spec_Stem.calls (k : Nat) (a0 : ByteArray) (r : ByteArray) (w : World) (h : spec_Stem.f k a0 = some r) :
  Calls Tryd.prog 24 #[.string a0] w fun e w' => e = .returned (.string r) ∧ Below w.heap.size w w' := by
 have HB := am_ (Below.refl w.heap.size w); have H : ((spec_Fold.f k a0).bind fun t133 => (if (t133.size : Int) > 12 then (if 0 ≤ 12 then (if 12 ≤ (t133.size : Int) then (spec_Stem.j0 k (t133.extract 0 12)) else (none)) else (none)) else (spec_Stem.j0 k t133))) = some r := h; clear h; replace H := Option.bind_eq_some_iff.mp H; obtain ⟨t133, A20, H⟩ := H; replace H : (if (t133.size : Int) > 12 then (if 0 ≤ 12 then (if 12 ≤ (t133.size : Int) then (spec_Stem.j0 k (t133.extract 0 12)) else (none)) else (none)) else (spec_Stem.j0 k t133)) = some r := H; have A2 := am_ A20; clear A20; have HC3 := am_ H; clear H; go_enter Tryd.func24, Tryd.ntmps24
 go_upto_if 9 with (first | ((with_reducible refine gate_callee (f := 25) rfl ?_); refine goesL_ (some 6) rfl rfl Tryd.func25 u8_ rfl #[.string a0] rfl u4_ ?_; (with_reducible refine (spec_Fold.calls k a0 t133 _ A2.out).mono ?_); rintro e w4 ⟨rfl, hb⟩; refine ⟨_, rfl, ?_⟩; replace HB := am_ (below_step u1_ hb); (try clear hb); (try clear hb2); (try clear hk); (try clear hi)))
 (try simp only [Act.put, List.setIfInBounds_toArray, List.set_cons_zero, List.set_cons_succ])
 go_cut [3] (fun v3 wc => ∃ (kq : Nat) (x3_2 : ByteArray), v3 = .string x3_2 ∧ Aside0 (spec_Stem.j0 kq x3_2 = some r) ∧ Aside0 (kq ≤ k) ∧ Aside0 (Below w.heap.size w wc))
 case first =>
  have H := HC3.out; clear HC3; by_cases c5 : (t133.size : Int) > 12
  ·rw [if_pos c5] at H; have c5b0 : decide (12 < (t133.size : Int)) = true := decide_eq_true c5; have c5b1 : decide (12 < t133.size) = true := decide_eq_true u52_; clear c5; (first | rw [c5b0] | (simp only [i64_w, i32_w]; rw [c5b0]) | skip)
   by_cases c6 : 0 ≤ 12
   ·rw [if_pos c6] at H; have c6b0 := eq_true c6; have c6b1 : decide (0 ≤ 12) = true := decide_eq_true c6; clear c6; by_cases c7 : 12 ≤ (t133.size : Int)
    ·rw [if_pos c7] at H; have c7b0 := eq_true c7; have c7b1 : decide (12 ≤ (t133.size : Int)) = true := decide_eq_true c7; clear c7; have H' := am_ H; clear H; go_wp2; go_meet
     case rel => exact ⟨_, (t133.extract 0 12), u20_, H', ⟨u46_⟩, ⟨u1_⟩⟩
    ·rw [if_neg c7] at H; exact absurd H u51_
   ·exact u85_
  ·rw [if_neg c5] at H; have c5b0 : decide (12 < (t133.size : Int)) = false := decide_eq_false c5; have c5b1 : decide (12 < t133.size) = false := decide_eq_false u52_; clear c5; (first | rw [c5b0] | (simp only [i64_w, i32_w]; rw [c5b0]) | skip)
   have H' := am_ H; clear H; go_wp2; go_meet
   case rel => exact ⟨_, (t133), u20_, H', ⟨u46_⟩, ⟨u1_⟩⟩
 case rest =>
  clear HC3; try clear c2
  try clear p2
  try clear c5
  try clear c5b0
  try clear c5b1
  try clear c6
  try clear c6b0
  try clear c6b1
  try clear c7
  try clear c7b0
  try clear c7b1
  obtain ⟨kq, x3_2, rfl, HA, HJ2, HB⟩ := hcut; cases kq with
  | zero => exact absurd HA.out (by simp [spec_Stem.j0])
  | succ kj2 =>
   have H := HA.out; clear HA; simp only [spec_Stem.j0] at H; have HC8 := am_ H; clear H; go_upto_region 5 with (fail)
   go_cut [29] (fun v29 wc => ∃ (kq : Nat) (x29_7 : Bool), v29 = .bool x29_7 ∧ Aside0 (spec_Stem.j1 kq x3_2 (x3_2.size : Int) x29_7 = some r) ∧ Aside0 (kq ≤ kj2) ∧ Aside0 (Below w.heap.size w wc))
   case first =>
    have H := HC8.out; clear HC8; by_cases c9 : (x3_2.size : Int) > 3
    ·rw [if_pos c9] at H; have c9b0 : decide (3 < (x3_2.size : Int)) = true := decide_eq_true c9; have c9b1 : decide (3 < x3_2.size) = true := decide_eq_true u52_; clear c9; (first | rw [c9b0] | (simp only [i64_w, i32_w]; rw [c9b0]) | skip)
     obtain ⟨ji10, hji10⟩ : ∃ j_ : Int, (wrap64 ((x3_2.size : Int) - 1)) = j_ := ⟨_, rfl⟩; replace H : (if 0 ≤ (ji10) then (if (ji10) < (x3_2.size : Int) then (if (bt x3_2 (ji10)) = 115 then (if 0 ≤ (wrap64 ((x3_2.size : Int) - 2)) then (if (wrap64 ((x3_2.size : Int) - 2)) < (x3_2.size : Int) then (spec_Stem.j1 kj2 x3_2 (x3_2.size : Int) ((bt x3_2 (wrap64 ((x3_2.size : Int) - 2))) != 115)) else (none)) else (none)) else (spec_Stem.j1 kj2 x3_2 (x3_2.size : Int) false)) else (none)) else (none)) = some r := by first | (rw [hji10] at H; exact H) | (simp only [hji10] at H ⊢; exact H)
     have hji10w : (IntKind.i64.wrap ((x3_2.size : Int) - 1)) = ji10 := (i64_w _).trans hji10; by_cases c11 : 0 ≤ (ji10)
     ·rw [if_pos c11] at H; have c11b0 : decide (0 ≤ (ji10)) = true := decide_eq_true c11; clear c11; by_cases c12 : (ji10) < (x3_2.size : Int)
      ·rw [if_pos c12] at H; have c12b0 : decide ((ji10) < (x3_2.size : Int)) = true := decide_eq_true c12; clear c12; by_cases c14 : (bt x3_2 (ji10)) = 115
       ·rw [if_pos c14] at H; have c14b0 : ((bt x3_2 (ji10)) == 115) = true := beq_iff_eq.mpr c14; have c14b1 : ((bt x3_2 (ji10)) != 115) = false := bne_eq_false_iff_eq.mpr c14; clear c14; obtain ⟨ji15, hji15⟩ : ∃ j_ : Int, (wrap64 ((x3_2.size : Int) - 2)) = j_ := ⟨_, rfl⟩; replace H : (if 0 ≤ (ji15) then (if (ji15) < (x3_2.size : Int) then (spec_Stem.j1 kj2 x3_2 (x3_2.size : Int) ((bt x3_2 (ji15)) != 115)) else (none)) else (none)) = some r := by first | (rw [hji15] at H; exact H) | (simp only [hji15] at H ⊢; exact H)
        have hji15w : (IntKind.i64.wrap ((x3_2.size : Int) - 2)) = ji15 := (i64_w _).trans hji15; by_cases c16 : 0 ≤ (ji15)
        ·rw [if_pos c16] at H; have c16b0 : decide (0 ≤ (ji15)) = true := decide_eq_true c16; clear c16; by_cases c17 : (ji15) < (x3_2.size : Int)
         ·rw [if_pos c17] at H; have c17b0 : decide ((ji15) < (x3_2.size : Int)) = true := decide_eq_true c17; clear c17; have H' := am_ H; clear H; have p13 : 0 ≤ ((ji10) : Int) := of_decide_eq_true u7_; have q13 : (ji10) < (x3_2.size : Int) := of_decide_eq_true u7_; have hx13 := bt_at x3_2 (ji10); replace p13 := eq_true p13; replace q13 := eq_true q13; have p18 : 0 ≤ ((ji15) : Int) := of_decide_eq_true u7_; have q18 : (ji15) < (x3_2.size : Int) := of_decide_eq_true u7_; have hx18 := bt_at x3_2 (ji15); replace p18 := eq_true p18; replace q18 := eq_true q18; go_wp2; go_meet
          case rel => exact ⟨_, (((bt x3_2 (ji15)) != 115)), (by first | rfl | (simp; done) | (simp only [← hji15] <;> (first | rfl | simp)) | (simp [*]; done)), H', ⟨u77_⟩, ⟨u1_⟩⟩
         ·rw [if_neg c17] at H; exact absurd H u51_
        ·rw [if_neg c16] at H; exact absurd H u51_
       ·rw [if_neg c14] at H; have c14b0 : ((bt x3_2 (ji10)) == 115) = false := beq_eq_false_iff_ne.mpr c14; have c14b1 : ((bt x3_2 (ji10)) != 115) = true := bne_iff_ne.mpr c14; have H' := am_ H; clear H; have p13 : 0 ≤ ((ji10) : Int) := of_decide_eq_true u7_; have q13 : (ji10) < (x3_2.size : Int) := of_decide_eq_true u7_; have hx13 := bt_at x3_2 (ji10); replace p13 := eq_true p13; replace q13 := eq_true q13; go_wp2; go_meet
        case rel => exact ⟨_, (false), u20_, H', ⟨u77_⟩, ⟨u1_⟩⟩
      ·rw [if_neg c12] at H; exact absurd H u51_
     ·exact u83_
    ·rw [if_neg c9] at H; have c9b0 : decide (3 < (x3_2.size : Int)) = false := decide_eq_false c9; have c9b1 : decide (3 < x3_2.size) = false := decide_eq_false u52_; clear c9; (first | rw [c9b0] | (simp only [i64_w, i32_w]; rw [c9b0]) | skip)
     have H' := am_ H; clear H; go_wp2; go_meet
     case rel => exact ⟨_, (false), u20_, H', ⟨u77_⟩, ⟨u1_⟩⟩
   case rest =>
    clear HC8; try clear c1
    try clear p1
    try clear q1
    try clear hx1
    try clear c2
    try clear p2
    try clear c5
    try clear c5b0
    try clear c5b1
    try clear c6
    try clear c6b0
    try clear c6b1
    try clear p6
    try clear c7
    try clear c7b0
    try clear c7b1
    try clear c9
    try clear c9b0
    try clear c9b1
    try clear c11
    try clear c11b0
    try clear c12
    try clear c12b0
    try clear p13
    try clear q13
    try clear hx13
    try clear c14
    try clear c14b0
    try clear c14b1
    try clear c16
    try clear c16b0
    try clear c17
    try clear c17b0
    try clear p18
    try clear q18
    try clear hx18
    try clear p13
    try clear p18
    try clear p2
    try clear q13
    try clear q18
    obtain ⟨kq, x29_7, rfl, HA, HJ7, HB⟩ := hcut; cases kq with
    | zero => exact absurd HA.out (by simp [spec_Stem.j1])
    | succ kj7 =>
     have H := HA.out; clear HA; simp only [spec_Stem.j1] at H; by_cases c19 : x29_7 = true
     ·subst c19; rw [if_pos rfl] at H; obtain ⟨ji20, hji20⟩ : ∃ j_ : Int, (wrap64 ((x3_2.size : Int) - 1)) = j_ := ⟨_, rfl⟩; replace H : (if 0 ≤ (ji20) then (if (ji20) ≤ (x3_2.size : Int) then ((spec_l1Stop.f kj7 (x3_2.extract 0 ((ji20) : Int).toNat)).bind fun t134 => (if t134 = true then (some (⟨#[]⟩ : ByteArray)) else (some (x3_2.extract 0 ((ji20) : Int).toNat)))) else (none)) else (none)) = some r := by first | (rw [hji20] at H; exact H) | (simp only [hji20] at H ⊢; exact H)
      have hji20w : (IntKind.i64.wrap ((x3_2.size : Int) - 1)) = ji20 := (i64_w _).trans hji20; by_cases c21 : 0 ≤ (ji20)
      ·rw [if_pos c21] at H; have c21b0 := eq_true c21; have c21b1 : decide (0 ≤ (ji20)) = true := decide_eq_true c21; clear c21; by_cases c22 : (ji20) ≤ (x3_2.size : Int)
       ·rw [if_pos c22] at H; have c22b0 := eq_true c22; have c22b1 : decide ((ji20) ≤ (x3_2.size : Int)) = true := decide_eq_true c22; clear c22; replace H := Option.bind_eq_some_iff.mp H; obtain ⟨t134, A230, H⟩ := H; replace H : (if t134 = true then (some (⟨#[]⟩ : ByteArray)) else (some (x3_2.extract 0 ((ji20) : Int).toNat))) = some r := H; have A23 := am_ A230; clear A230; by_cases c24 : t134 = true
        ·subst c24; rw [if_pos rfl] at H; obtain rfl := Option.some.inj H; go_wp2_with (first | ((with_reducible refine gate_callee (f := 33) rfl ?_); refine goesL_ (some 35) rfl rfl Tryd.func33 u8_ rfl #[.string (x3_2.extract 0 ((ji20) : Int).toNat)] rfl u62_ ?_; (with_reducible refine (spec_l1Stop.calls kj7 (x3_2.extract 0 ((ji20) : Int).toNat) true _ A23.out).mono ?_); rintro e w25 ⟨rfl, hb⟩; refine ⟨_, rfl, ?_⟩; replace HB := am_ (below_step u1_ hb); (try clear hb); (try clear hb2); (try clear hk); (try clear hi)))
         go_ret
         exact ⟨u54_, u1_⟩
        ·replace c24 := Bool.eq_false_iff.mpr c24; subst c24; rw [if_neg (show ¬ (false = true) by decide)] at H; obtain rfl := Option.some.inj H; go_wp2_with (first | ((with_reducible refine gate_callee (f := 33) rfl ?_); refine goesL_ (some 35) rfl rfl Tryd.func33 u8_ rfl #[.string (x3_2.extract 0 ((ji20) : Int).toNat)] rfl u62_ ?_; (with_reducible refine (spec_l1Stop.calls kj7 (x3_2.extract 0 ((ji20) : Int).toNat) false _ A23.out).mono ?_); rintro e w26 ⟨rfl, hb⟩; refine ⟨_, rfl, ?_⟩; replace HB := am_ (below_step u1_ hb); (try clear hb); (try clear hb2); (try clear hk); (try clear hi)))
         go_ret
         exact ⟨u54_, u1_⟩
       ·rw [if_neg c22] at H; exact absurd H u51_
      ·rw [if_neg c21] at H; exact absurd H u51_
     ·replace c19 := Bool.eq_false_iff.mpr c19; subst c19; rw [if_neg (show ¬ (false = true) by decide)] at H; replace H := Option.bind_eq_some_iff.mp H; obtain ⟨t135, A270, H⟩ := H; replace H : (if t135 = true then (some (⟨#[]⟩ : ByteArray)) else (some x3_2)) = some r := H; have A27 := am_ A270; clear A270; by_cases c28 : t135 = true
      ·subst c28; rw [if_pos rfl] at H; obtain rfl := Option.some.inj H; go_wp2_with (first | ((with_reducible refine gate_callee (f := 33) rfl ?_); refine goesL_ (some 35) rfl rfl Tryd.func33 u8_ rfl #[.string x3_2] rfl u4_ ?_; (with_reducible refine (spec_l1Stop.calls kj7 x3_2 true _ A27.out).mono ?_); rintro e w29 ⟨rfl, hb⟩; refine ⟨_, rfl, ?_⟩; replace HB := am_ (below_step u1_ hb); (try clear hb); (try clear hb2); (try clear hk); (try clear hi)))
       go_ret
       exact ⟨u2_, u1_⟩
      ·replace c28 := Bool.eq_false_iff.mpr c28; subst c28; rw [if_neg (show ¬ (false = true) by decide)] at H; obtain rfl := Option.some.inj H; go_wp2_with (first | ((with_reducible refine gate_callee (f := 33) rfl ?_); refine goesL_ (some 35) rfl rfl Tryd.func33 u8_ rfl #[.string x3_2] rfl u4_ ?_; (with_reducible refine (spec_l1Stop.calls kj7 x3_2 false _ A27.out).mono ?_); rintro e w30 ⟨rfl, hb⟩; refine ⟨_, rfl, ?_⟩; replace HB := am_ (below_step u1_ hb); (try clear hb); (try clear hb2); (try clear hk); (try clear hi)))
       go_ret
       exact ⟨u2_, u1_⟩

end Go.Proofs.YthlabmfecmdlcaaDoor.PFnExactQueryOk
