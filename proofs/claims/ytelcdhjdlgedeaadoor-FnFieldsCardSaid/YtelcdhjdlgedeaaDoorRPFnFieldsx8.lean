/- Contracts of Go functions that the law FnFields reaches: each is told as a plain Lean function, with the walk that shows it; no condition beyond what each states. Written by a program of this session round the kit's printer. -/
import Derived.Test.YtelcdhjdlgedeaaDoorRPFnFieldsx0
import Derived.Test.YtelcdhjdlgedeaaDoorRPFnFieldsx1
import Derived.Test.YtelcdhjdlgedeaaDoorRPFnFieldsx2
import Derived.Test.YtelcdhjdlgedeaaDoorRPFnFieldsx5
import Derived.Test.YtelcdhjdlgedeaaDoorRPFnFieldsx7
namespace Go.Proofs.YtelcdhjdlgedeaaDoor.PFnFields
open Go.RowKit Go.Proofs.YtelcdhjdlgedeaaDoorW.PrintWords Go.Proofs.YtelcdhjdlgedeaaDoorW.PrintLast Go.Proofs.YtelcdhjdlgedeaaDoorW.PrintMore
attribute [local go_sem] isSome_setCell run_str_geq run_str_leq max2_int min2_int max_two min_two max_three min_three max_four min_four   -- for this text's walks alone
set_option linter.unusedVariables false
set_option linter.unusedSimpArgs false

attribute [local go_sem high] eqA75
/-! ### spec_l1Rd_pick: function 78 -/
def spec_l1Rd_pick.j0 : Nat → Int → Bool → List Int → Int → Option (Int × Int)
 | 0, _, _, _, _ => none
 | k + 1, x1, x24, x1000, x1001 => if x24 = true then (some (0, x1001)) else (if (wrap64 (x1001 - 1)) < (x1000.length : Int) then (if 0 ≤ (wrap64 (x1001 - 1)) then (if x1 = 0 then (none) else (some (Int.tmod (wrap64 (rd x1000 (wrap64 (x1001 - 1)))) x1, x1001))) else (none)) else (if (x1000.length : Int) = 0 then (none) else (if 0 ≤ (Int.tmod (wrap64 (x1001 - 1)) (x1000.length : Int)) then (if (Int.tmod (wrap64 (x1001 - 1)) (x1000.length : Int)) < (x1000.length : Int) then (if 0 ≤ (Int.tmod (wrap64 ((wrap64 ((wrap64 (x1001 - 1)) * 7)) + 3)) (x1000.length : Int)) then (if (Int.tmod (wrap64 ((wrap64 ((wrap64 (x1001 - 1)) * 7)) + 3)) (x1000.length : Int)) < (x1000.length : Int) then (if x1 = 0 then (none) else (some (Int.tmod (Go.bits .xor .i64 (wrap64 ((wrap64 ((wrap64 ((wrap64 ((wrap64 (rd x1000 (Int.tmod (wrap64 (x1001 - 1)) (x1000.length : Int)))) * 131)) + (wrap64 ((wrap64 (rd x1000 (Int.tmod (wrap64 ((wrap64 ((wrap64 (x1001 - 1)) * 7)) + 3)) (x1000.length : Int)))) * 1117)))) + (wrap64 ((wrap64 (x1001 - 1)) * 29)))) + (wrap64 ((wrap64 (Int.tdiv (wrap64 (x1001 - 1)) (x1000.length : Int))) * 53)))) (wrap64 (Int.tdiv (wrap64 ((wrap64 ((wrap64 ((wrap64 ((wrap64 (rd x1000 (Int.tmod (wrap64 (x1001 - 1)) (x1000.length : Int)))) * 131)) + (wrap64 ((wrap64 (rd x1000 (Int.tmod (wrap64 ((wrap64 ((wrap64 (x1001 - 1)) * 7)) + 3)) (x1000.length : Int)))) * 1117)))) + (wrap64 ((wrap64 (x1001 - 1)) * 29)))) + (wrap64 ((wrap64 (Int.tdiv (wrap64 (x1001 - 1)) (x1000.length : Int))) * 53)))) 64))) x1, x1001))) else (none)) else (none)) else (none)) else (none))))
def spec_l1Rd_pick.f (k : Nat) (s0_0 : List Int) (s0_1 : Int) (a1 : Int) : Option (Int × Int) := if a1 < 1 then (spec_l1Rd_pick.j0 k a1 true s0_0 (wrap64 (s0_1 + 1))) else (spec_l1Rd_pick.j0 k a1 ((s0_0.length : Int) == 0) s0_0 (wrap64 (s0_1 + 1)))
theorem spec_l1Rd_pick.mono_l : ∀ k, (∀ y0 y1 y2 y3, LeO (spec_l1Rd_pick.j0 k y0 y1 y2 y3) (spec_l1Rd_pick.j0 (k + 1) y0 y1 y2 y3))
 | 0 => fun _ _ _ _ r h => by simp [spec_l1Rd_pick.j0] at h
 | k + 1 => by
  have ih0 := spec_l1Rd_pick.mono_l k
  ·intro y0 y1 y2 y3
   unfold spec_l1Rd_pick.j0
   repeat' first
   | (with_reducible exact ih0 _ _ _ _)
   | (with_reducible exact LeO.refl _)
   | (with_reducible exact LeO.none _)
   | (with_reducible refine LeO.ite ?_ ?_)
   | (with_reducible refine LeO.bind ?_ (fun _ => ?_))
   | exact ih0 _ _ _ _
   | exact LeO.none _
   | refine LeO.ite ?_ ?_
   | refine LeO.bind ?_ (fun _ => ?_)
theorem spec_l1Rd_pick.mono : ∀ a0 a1 a2 k, LeO (spec_l1Rd_pick.f k a0 a1 a2) (spec_l1Rd_pick.f (k + 1) a0 a1 a2) := by
 intro a0 a1 a2 k
 have ih0 := spec_l1Rd_pick.mono_l k
 unfold spec_l1Rd_pick.f
 repeat' first
   | (with_reducible exact ih0 _ _ _ _)
   | (with_reducible exact LeO.refl _)
   | (with_reducible exact LeO.none _)
   | (with_reducible refine LeO.ite ?_ ?_)
   | (with_reducible refine LeO.bind ?_ (fun _ => ?_))
   | exact ih0 _ _ _ _
   | exact LeO.none _
   | refine LeO.ite ?_ ?_
   | refine LeO.bind ?_ (fun _ => ?_)
set_option maxHeartbeats 8000000 in
set_option maxRecDepth 100000 in
theorem spec_l1Rd_pick.calls (k : Nat) (g : Nat) (s0_0 : List Int) (s0_1 : Int) (a1 : Int) (r1 : Int) (r2 : Int) (w0 w : World) (hI : IsS99 w0 w g s0_0 s0_1) (hB : Below w0.heap.size w0 w) (h : spec_l1Rd_pick.f k s0_0 s0_1 a1 = some (r1, r2)) :
  Calls Tryd.prog 78 #[.pointer (some ⟨g, 0, none⟩), .int .i64 a1] w fun e w' => e = .returned (.int .i64 r1) ∧ IsS99 w0 w' g s0_0 r2 ∧ Below w0.heap.size w0 w' ∧ KeepBut w w' g none := by
 have HI0 := Aside0.mk hI
 have HK := Aside0.mk (KeepBut.refl w g none)
 have HL := Aside0.mk hB.size
 clear hI
 have HW0 := Aside0.mk hB.size
 have HB := Aside0.mk hB
 clear hB
 have H : (if a1 < 1 then (spec_l1Rd_pick.j0 k a1 true s0_0 (wrap64 (s0_1 + 1))) else (spec_l1Rd_pick.j0 k a1 ((s0_0.length : Int) == 0) s0_0 (wrap64 (s0_1 + 1)))) = some (r1, r2) := h
 clear h
 have HC3 := Aside0.mk H
 clear H
 obtain ⟨ASz4_0, cSz4_0, HGz4, hgz4, HSz4_0⟩ := HI0.out
 have hcz4_0 := cellS99_0 HGz4
 have hcz4_1 := cellS99_1 HGz4
 have hfz4_1 := blk_frozen HGz4 1
 clear HGz4 hgz4
 go_enter Tryd.func78, Tryd.ntmps78
 go_upto_region 2 with (fail)
 repeat (go_quiet (fail); go_upto_region 2 with (fail))
 go_cut [24] (fun v24 wc => ∃ (kq : Nat) (x24_2 : Bool), v24 = .bool x24_2 ∧ Aside0 (spec_l1Rd_pick.j0 kq a1 x24_2 s0_0 (wrap64 (s0_1 + 1)) = some (r1, r2)) ∧ Aside0 (kq ≤ k) ∧ Aside0 (IsS99 w0 wc g s0_0 (wrap64 (s0_1 + 1))) ∧ Aside0 (KeepBut w wc g none) ∧ Aside0 (Below w0.heap.size w0 wc))
 case first =>
  have H := HC3.out
  clear HC3
  by_cases c5 : a1 < 1
  ·rw [if_pos c5] at H
   have c5b0 : decide (a1 < 1) = true := decide_eq_true c5
   clear c5
   (first | rw [c5b0] | (simp only [i64_w, i32_w]; rw [c5b0]) | skip)
   have H' := Aside0.mk H
   clear H
   go_wp2
   repeat (go_quiet (fail); try go_wp2)
   go_meet
   case rel => exact ⟨_, (true), u10_, H', ⟨by first | omega | exact Nat.le_refl _⟩, ⟨u6_⟩, ⟨u2_⟩, ⟨u5_⟩⟩
  ·rw [if_neg c5] at H
   have c5b0 : decide (a1 < 1) = false := decide_eq_false c5
   clear c5
   (first | rw [c5b0] | (simp only [i64_w, i32_w]; rw [c5b0]) | skip)
   have H' := Aside0.mk H
   clear H
   obtain ⟨ASz6_0, cSz6_0, HGz6, hgz6, HSz6_0⟩ := HI0.out
   have hcz6_0 := cellS99_0 HGz6
   have hcz6_1 := cellS99_1 HGz6
   have hfz6_1 := blk_frozen HGz6 1
   clear HGz6 hgz6
   go_wp2
   repeat (go_quiet (fail); try go_wp2)
   go_meet
   case rel => exact ⟨_, (((s0_0.length : Int) == 0)), u10_, H', ⟨by first | omega | exact Nat.le_refl _⟩, ⟨u6_⟩, ⟨u2_⟩, ⟨u5_⟩⟩
 case rest =>
  clear HC3
  try clear p2
  try clear c5
  try clear c5b0
  try clear p6
  try clear hcz4_0
  try clear hcz4_1
  try clear hcz6_0
  try clear hcz6_1
  try clear hfz4_1
  try clear hfz6_1
  obtain ⟨kq, x24_2, rfl, HA, HJ2, HI0, HK, HB⟩ := hcut
  cases kq with
  | zero => exact absurd HA.out (by simp [spec_l1Rd_pick.j0])
  | succ kj2 =>
   have H := HA.out
   clear HA
   simp only [spec_l1Rd_pick.j0] at H
   by_cases c7 : x24_2 = true
   ·subst c7
    have H1 : (some (0, (wrap64 (s0_1 + 1)))) = some (r1, r2) := by rw [if_pos rfl] at H; exact H
    clear H
    have H := H1
    clear H1
    simp only [Option.some.injEq, Prod.mk.injEq] at H
    obtain ⟨rfl, rfl⟩ := H
    go_wp2
    repeat (go_quiet (fail); try go_wp2)
    go_ret
    exact ⟨u4_, u6_, u5_, u2_⟩
   ·replace c7 := Bool.eq_false_iff.mpr c7
    subst c7
    have H1 : (if (wrap64 ((wrap64 (s0_1 + 1)) - 1)) < (s0_0.length : Int) then (if 0 ≤ (wrap64 ((wrap64 (s0_1 + 1)) - 1)) then (if a1 = 0 then (none) else (some (Int.tmod (wrap64 (rd s0_0 (wrap64 ((wrap64 (s0_1 + 1)) - 1)))) a1, (wrap64 (s0_1 + 1))))) else (none)) else (if (s0_0.length : Int) = 0 then (none) else (if 0 ≤ (Int.tmod (wrap64 ((wrap64 (s0_1 + 1)) - 1)) (s0_0.length : Int)) then (if (Int.tmod (wrap64 ((wrap64 (s0_1 + 1)) - 1)) (s0_0.length : Int)) < (s0_0.length : Int) then (if 0 ≤ (Int.tmod (wrap64 ((wrap64 ((wrap64 ((wrap64 (s0_1 + 1)) - 1)) * 7)) + 3)) (s0_0.length : Int)) then (if (Int.tmod (wrap64 ((wrap64 ((wrap64 ((wrap64 (s0_1 + 1)) - 1)) * 7)) + 3)) (s0_0.length : Int)) < (s0_0.length : Int) then (if a1 = 0 then (none) else (some (Int.tmod (Go.bits .xor .i64 (wrap64 ((wrap64 ((wrap64 ((wrap64 ((wrap64 (rd s0_0 (Int.tmod (wrap64 ((wrap64 (s0_1 + 1)) - 1)) (s0_0.length : Int)))) * 131)) + (wrap64 ((wrap64 (rd s0_0 (Int.tmod (wrap64 ((wrap64 ((wrap64 ((wrap64 (s0_1 + 1)) - 1)) * 7)) + 3)) (s0_0.length : Int)))) * 1117)))) + (wrap64 ((wrap64 ((wrap64 (s0_1 + 1)) - 1)) * 29)))) + (wrap64 ((wrap64 (Int.tdiv (wrap64 ((wrap64 (s0_1 + 1)) - 1)) (s0_0.length : Int))) * 53)))) (wrap64 (Int.tdiv (wrap64 ((wrap64 ((wrap64 ((wrap64 ((wrap64 (rd s0_0 (Int.tmod (wrap64 ((wrap64 (s0_1 + 1)) - 1)) (s0_0.length : Int)))) * 131)) + (wrap64 ((wrap64 (rd s0_0 (Int.tmod (wrap64 ((wrap64 ((wrap64 ((wrap64 (s0_1 + 1)) - 1)) * 7)) + 3)) (s0_0.length : Int)))) * 1117)))) + (wrap64 ((wrap64 ((wrap64 (s0_1 + 1)) - 1)) * 29)))) + (wrap64 ((wrap64 (Int.tdiv (wrap64 ((wrap64 (s0_1 + 1)) - 1)) (s0_0.length : Int))) * 53)))) 64))) a1, (wrap64 (s0_1 + 1))))) else (none)) else (none)) else (none)) else (none)))) = some (r1, r2) := by rw [if_neg (show ¬ (false = true) by decide)] at H; exact H
    clear H
    have H := H1
    clear H1
    by_cases c8 : (wrap64 ((wrap64 (s0_1 + 1)) - 1)) < (s0_0.length : Int)
    ·rw [if_pos c8] at H
     have c8b0 : decide ((wrap64 ((wrap64 (s0_1 + 1)) - 1)) < (s0_0.length : Int)) = true := decide_eq_true c8
     clear c8
     obtain ⟨ji9, hji9⟩ : ∃ j_ : Int, (wrap64 ((wrap64 (s0_1 + 1)) - 1)) = j_ := ⟨_, rfl⟩
     replace H : (if 0 ≤ (ji9) then (if a1 = 0 then (none) else (some (Int.tmod (wrap64 (rd s0_0 (ji9))) a1, (wrap64 (s0_1 + 1))))) else (none)) = some (r1, r2) := by first | (rw [hji9] at H; exact H) | (simp only [hji9] at H ⊢; exact H)
     (try rw [hji9] at c8b0)
     have hji9w : (IntKind.i64.wrap ((wrap64 (s0_1 + 1)) - 1)) = ji9 := (i64_w _).trans hji9
     by_cases c10 : 0 ≤ (ji9)
     ·rw [if_pos c10] at H
      have c10b0 : decide (0 ≤ (ji9)) = true := decide_eq_true c10
      clear c10
      by_cases c11 : a1 = 0
      ·rw [if_pos c11] at H
       exact absurd H u43_
      ·rw [if_neg c11] at H
       have c11b0 : (a1 == 0) = false := beq_eq_false_iff_ne.mpr c11
       have c11b1 : (a1 != 0) = true := bne_iff_ne.mpr c11
       simp only [Option.some.injEq, Prod.mk.injEq] at H
       obtain ⟨rfl, rfl⟩ := H
       obtain ⟨ASz12_0, cSz12_0, HGz12, hgz12, HSz12_0⟩ := HI0.out
       have hcz12_0 := cellS99_0 HGz12
       have hcz12_1 := cellS99_1 HGz12
       have hfz12_1 := blk_frozen HGz12 1
       clear HGz12 hgz12
       have p254 : 0 ≤ ((ji9) : Int) := of_decide_eq_true u3_
       have q254 : (ji9) < (s0_0.length : Int) := of_decide_eq_true u3_
       obtain ⟨ad254, e254, hx254_0⟩ := Kd.at_int HSz12_0 (ji9) p254 q254
       cases e254
       replace hx254_0 := pw_cell_below HB.out hx254_0
       replace p254 := eq_true p254
       replace q254 := eq_true q254
       go_wp2
       repeat (go_quiet (fail); try go_wp2)
       go_ret
       exact ⟨by first | rfl | (simp [errW_none, errW_some] <;> rfl) | (simp only [← hji9]; first | rfl | (simp [errW_none, errW_some] <;> rfl)) | (simp [*, errW_none, errW_some] <;> rfl) | (simp; exact isEmpty_bne _), u6_, u5_, u2_⟩
     ·rw [if_neg c10] at H
      exact absurd H u43_
    ·rw [if_neg c8] at H
     have c8b0 : decide ((wrap64 ((wrap64 (s0_1 + 1)) - 1)) < (s0_0.length : Int)) = false := decide_eq_false c8
     clear c8
     by_cases c13 : (s0_0.length : Int) = 0
     ·rw [if_pos c13] at H
      exact absurd H u43_
     ·rw [if_neg c13] at H
      have c13b0 : ((s0_0.length : Int) == 0) = false := beq_eq_false_iff_ne.mpr c13
      have c13b1 : ((s0_0.length : Int) != 0) = true := bne_iff_ne.mpr c13
      have c13b2 : ¬ (s0_0 = []) := fun h_ => c13 (by rw [h_]; rfl)
      obtain ⟨ji14, hji14⟩ : ∃ j_ : Int, (Int.tmod (wrap64 ((wrap64 (s0_1 + 1)) - 1)) (s0_0.length : Int)) = j_ := ⟨_, rfl⟩
      replace H : (if 0 ≤ (ji14) then (if (ji14) < (s0_0.length : Int) then (if 0 ≤ (Int.tmod (wrap64 ((wrap64 ((wrap64 ((wrap64 (s0_1 + 1)) - 1)) * 7)) + 3)) (s0_0.length : Int)) then (if (Int.tmod (wrap64 ((wrap64 ((wrap64 ((wrap64 (s0_1 + 1)) - 1)) * 7)) + 3)) (s0_0.length : Int)) < (s0_0.length : Int) then (if a1 = 0 then (none) else (some (Int.tmod (Go.bits .xor .i64 (wrap64 ((wrap64 ((wrap64 ((wrap64 ((wrap64 (rd s0_0 (ji14))) * 131)) + (wrap64 ((wrap64 (rd s0_0 (Int.tmod (wrap64 ((wrap64 ((wrap64 ((wrap64 (s0_1 + 1)) - 1)) * 7)) + 3)) (s0_0.length : Int)))) * 1117)))) + (wrap64 ((wrap64 ((wrap64 (s0_1 + 1)) - 1)) * 29)))) + (wrap64 ((wrap64 (Int.tdiv (wrap64 ((wrap64 (s0_1 + 1)) - 1)) (s0_0.length : Int))) * 53)))) (wrap64 (Int.tdiv (wrap64 ((wrap64 ((wrap64 ((wrap64 ((wrap64 (rd s0_0 (ji14))) * 131)) + (wrap64 ((wrap64 (rd s0_0 (Int.tmod (wrap64 ((wrap64 ((wrap64 ((wrap64 (s0_1 + 1)) - 1)) * 7)) + 3)) (s0_0.length : Int)))) * 1117)))) + (wrap64 ((wrap64 ((wrap64 (s0_1 + 1)) - 1)) * 29)))) + (wrap64 ((wrap64 (Int.tdiv (wrap64 ((wrap64 (s0_1 + 1)) - 1)) (s0_0.length : Int))) * 53)))) 64))) a1, (wrap64 (s0_1 + 1))))) else (none)) else (none)) else (none)) else (none)) = some (r1, r2) := by first | (rw [hji14] at H; exact H) | (simp only [hji14] at H ⊢; exact H)
      by_cases c15 : 0 ≤ (ji14)
      ·rw [if_pos c15] at H
       have c15b0 : decide (0 ≤ (ji14)) = true := decide_eq_true c15
       clear c15
       by_cases c16 : (ji14) < (s0_0.length : Int)
       ·rw [if_pos c16] at H
        have c16b0 : decide ((ji14) < (s0_0.length : Int)) = true := decide_eq_true c16
        clear c16
        obtain ⟨ji17, hji17⟩ : ∃ j_ : Int, (Int.tmod (wrap64 ((wrap64 ((wrap64 ((wrap64 (s0_1 + 1)) - 1)) * 7)) + 3)) (s0_0.length : Int)) = j_ := ⟨_, rfl⟩
        replace H : (if 0 ≤ (ji17) then (if (ji17) < (s0_0.length : Int) then (if a1 = 0 then (none) else (some (Int.tmod (Go.bits .xor .i64 (wrap64 ((wrap64 ((wrap64 ((wrap64 ((wrap64 (rd s0_0 (ji14))) * 131)) + (wrap64 ((wrap64 (rd s0_0 (ji17))) * 1117)))) + (wrap64 ((wrap64 ((wrap64 (s0_1 + 1)) - 1)) * 29)))) + (wrap64 ((wrap64 (Int.tdiv (wrap64 ((wrap64 (s0_1 + 1)) - 1)) (s0_0.length : Int))) * 53)))) (wrap64 (Int.tdiv (wrap64 ((wrap64 ((wrap64 ((wrap64 ((wrap64 (rd s0_0 (ji14))) * 131)) + (wrap64 ((wrap64 (rd s0_0 (ji17))) * 1117)))) + (wrap64 ((wrap64 ((wrap64 (s0_1 + 1)) - 1)) * 29)))) + (wrap64 ((wrap64 (Int.tdiv (wrap64 ((wrap64 (s0_1 + 1)) - 1)) (s0_0.length : Int))) * 53)))) 64))) a1, (wrap64 (s0_1 + 1))))) else (none)) else (none)) = some (r1, r2) := by first | (rw [hji17] at H; exact H) | (simp only [hji17] at H ⊢; exact H)
        by_cases c18 : 0 ≤ (ji17)
        ·rw [if_pos c18] at H
         have c18b0 : decide (0 ≤ (ji17)) = true := decide_eq_true c18
         clear c18
         by_cases c19 : (ji17) < (s0_0.length : Int)
         ·rw [if_pos c19] at H
          have c19b0 : decide ((ji17) < (s0_0.length : Int)) = true := decide_eq_true c19
          clear c19
          by_cases c20 : a1 = 0
          ·rw [if_pos c20] at H
           exact absurd H u43_
          ·rw [if_neg c20] at H
           have c20b0 : (a1 == 0) = false := beq_eq_false_iff_ne.mpr c20
           have c20b1 : (a1 != 0) = true := bne_iff_ne.mpr c20
           simp only [Option.some.injEq, Prod.mk.injEq] at H
           obtain ⟨rfl, rfl⟩ := H
           obtain ⟨ASz21_0, cSz21_0, HGz21, hgz21, HSz21_0⟩ := HI0.out
           have hcz21_0 := cellS99_0 HGz21
           have hcz21_1 := cellS99_1 HGz21
           have hfz21_1 := blk_frozen HGz21 1
           clear HGz21 hgz21
           have p255 : 0 ≤ ((ji14) : Int) := of_decide_eq_true u3_
           have q255 : (ji14) < (s0_0.length : Int) := of_decide_eq_true u3_
           obtain ⟨ad255, e255, hx255_0⟩ := Kd.at_int HSz21_0 (ji14) p255 q255
           cases e255
           replace hx255_0 := pw_cell_below HB.out hx255_0
           replace p255 := eq_true p255
           replace q255 := eq_true q255
           have p256 : 0 ≤ ((ji17) : Int) := of_decide_eq_true u3_
           have q256 : (ji17) < (s0_0.length : Int) := of_decide_eq_true u3_
           obtain ⟨ad256, e256, hx256_0⟩ := Kd.at_int HSz21_0 (ji17) p256 q256
           obtain rfl : ad255 = ad256 := (by injection e256)
           replace hx256_0 := pw_cell_below HB.out hx256_0
           replace p256 := eq_true p256
           replace q256 := eq_true q256
           go_wp2
           repeat (go_quiet (fail); try go_wp2)
           go_ret
           exact ⟨by first | rfl | (simp [errW_none, errW_some] <;> rfl) | (simp only [← hji14, ← hji17]; first | rfl | (simp [errW_none, errW_some] <;> rfl)) | (simp [*, errW_none, errW_some] <;> rfl) | (simp; exact isEmpty_bne _), u6_, u5_, u2_⟩
         ·rw [if_neg c19] at H
          exact absurd H u43_
        ·rw [if_neg c18] at H
         exact absurd H u43_
       ·rw [if_neg c16] at H
        exact absurd H u43_
      ·rw [if_neg c15] at H
       exact absurd H u43_

/-! ### spec_l10Fields: function 96 -/
def spec_l10Fields.f  : Option ((List (S75))) := some (([(⟨(⟨#[116, 105, 116, 108, 101]⟩ : ByteArray), 1, 3⟩ : S75), (⟨(⟨#[98, 111, 100, 121]⟩ : ByteArray), 1, 1⟩ : S75), (⟨(⟨#[112, 114, 105, 99, 101]⟩ : ByteArray), 2, 0⟩ : S75), (⟨(⟨#[99, 111, 108, 111, 114]⟩ : ByteArray), 3, 0⟩ : S75)] : List (S75)))
set_option maxHeartbeats 8000000 in
set_option maxRecDepth 100000 in
theorem spec_l10Fields.calls  (r : List (S75)) (w : World) (h : spec_l10Fields.f  = some r) :
  Calls Tryd.prog 96 #[] w fun e w' => ∃ v0_ : Value, e = .returned (v0_) ∧ Kd.R k75 75 w' w.heap.size (fun _ => True) v0_ r ∧ Below w.heap.size w w' := by
 have hu75 := Tryd.underlying75
 have HB := Aside0.mk (Below.refl w.heap.size w)
 have H : (some (([(⟨(⟨#[116, 105, 116, 108, 101]⟩ : ByteArray), 1, 3⟩ : S75), (⟨(⟨#[98, 111, 100, 121]⟩ : ByteArray), 1, 1⟩ : S75), (⟨(⟨#[112, 114, 105, 99, 101]⟩ : ByteArray), 2, 0⟩ : S75), (⟨(⟨#[99, 111, 108, 111, 114]⟩ : ByteArray), 3, 0⟩ : S75)] : List (S75)))) = some r := h
 clear h
 obtain ⟨y257, hy257⟩ : ∃ y_ : List (S75), y_ = (([(⟨(⟨#[116, 105, 116, 108, 101]⟩ : ByteArray), 1, 3⟩ : S75), (⟨(⟨#[98, 111, 100, 121]⟩ : ByteArray), 1, 1⟩ : S75), (⟨(⟨#[112, 114, 105, 99, 101]⟩ : ByteArray), 2, 0⟩ : S75), (⟨(⟨#[99, 111, 108, 111, 114]⟩ : ByteArray), 3, 0⟩ : S75)] : List (S75))) := ⟨_, rfl⟩
 replace H : (some y257) = some r := by first | (rw [hy257]; with_reducible exact H) | (have H2_ := (Option.bind_some _ _).symm.trans H; rw [hy257]; with_reducible exact H2_) | (have H2_ := (Option.bind_some _ _).symm.trans H; with_reducible exact H2_) | with_reducible exact H | (rw [hy257]; exact H) | exact H
 have Ny257 := Aside0.mk hy257
 clear hy257
 obtain rfl := Option.some.inj H
 go_enter Tryd.func96, Tryd.ntmps96
 go_wp2_with (first | ((with_reducible refine gate_dst (N := 5) rfl ?_); refine Kd.R_lit k75 _ 75 ?hg (N := 5) ?hd (xs := ([(⟨(⟨#[116, 105, 116, 108, 101]⟩ : ByteArray), 1, 3⟩ : S75), (⟨(⟨#[98, 111, 100, 121]⟩ : ByteArray), 1, 1⟩ : S75), (⟨(⟨#[112, 114, 105, 99, 101]⟩ : ByteArray), 2, 0⟩ : S75), (⟨(⟨#[99, 111, 108, 111, 114]⟩ : ByteArray), 3, 0⟩ : S75)] : List (S75))) (inner := [.string (⟨#[116, 105, 116, 108, 101]⟩ : ByteArray), .int .i64 1, .int .i64 3, .string (⟨#[98, 111, 100, 121]⟩ : ByteArray), .int .i64 1, .int .i64 1, .string (⟨#[112, 114, 105, 99, 101]⟩ : ByteArray), .int .i64 2, .int .i64 0, .string (⟨#[99, 111, 108, 111, 114]⟩ : ByteArray), .int .i64 3, .int .i64 0]) (ok := fun _ => True) (okp := fun _ => True) ?hr ?hp (fun _ hk => hk) trivial (Below.refl _ _) (Nat.le_refl _) u43_ ?_; (case hd => rfl); (case hg => rfl); (case hr => first | (go_simp; done) | (go_simp; rfl)); (case hp => exact (Reps.c3 (show Kd.M k75 _ _ _ (⟨(⟨#[116, 105, 116, 108, 101]⟩ : ByteArray), 1, 3⟩ : S75) [.string (⟨#[116, 105, 116, 108, 101]⟩ : ByteArray), .int .i64 1, .int .i64 3] from (k75_mkM _ _ _ (⟨(⟨#[116, 105, 116, 108, 101]⟩ : ByteArray), 1, 3⟩ : S75) )) (Reps.c3 (show Kd.M k75 _ _ _ (⟨(⟨#[98, 111, 100, 121]⟩ : ByteArray), 1, 1⟩ : S75) [.string (⟨#[98, 111, 100, 121]⟩ : ByteArray), .int .i64 1, .int .i64 1] from (k75_mkM _ _ _ (⟨(⟨#[98, 111, 100, 121]⟩ : ByteArray), 1, 1⟩ : S75) )) (Reps.c3 (show Kd.M k75 _ _ _ (⟨(⟨#[112, 114, 105, 99, 101]⟩ : ByteArray), 2, 0⟩ : S75) [.string (⟨#[112, 114, 105, 99, 101]⟩ : ByteArray), .int .i64 2, .int .i64 0] from (k75_mkM _ _ _ (⟨(⟨#[112, 114, 105, 99, 101]⟩ : ByteArray), 2, 0⟩ : S75) )) (Reps.c3 (show Kd.M k75 _ _ _ (⟨(⟨#[99, 111, 108, 111, 114]⟩ : ByteArray), 3, 0⟩ : S75) [.string (⟨#[99, 111, 108, 111, 114]⟩ : ByteArray), .int .i64 3, .int .i64 0] from (k75_mkM _ _ _ (⟨(⟨#[99, 111, 108, 111, 114]⟩ : ByteArray), 3, 0⟩ : S75) )) (Reps.none _ _)))))); intro v258 w1 ho2 hb hg_ hnew_; clear hg_ hnew_; (first | rw [← Ny257.out] at ho2 | (simp only [Int.reduceToNat] at ho2; rw [← Ny257.out] at ho2)); have n0_ := Aside0.mk (Kd.R_lower ho2 (below_size u0_)); have n1_ := Aside0.mk (below_step u0_ hb); clear HB; have HO259 := n0_; have HB := n1_; clear n0_ n1_; clear hb ho2))
 go_ret
 exact ⟨_, u4_, by (with_reducible repeat (first | apply Kd.R_alloc | apply Kd.R_drewN | apply Kd.R_drew)); exact HO259.out, u0_⟩

/-! ### spec_l11Fields: function 70 -/
def spec_l11Fields.f (k : Nat) (s0_0 : List Int) (s0_1 : Int) : Option ((List (S75)) × Int) := (spec_l10Fields.f).bind fun t260 => ((spec_l1Rd_pick.f k s0_0 s0_1 4).bind fun bt263 => (if bt263.1 = 0 then (if 1 ≤ (t260.length : Int) then (some ((t260.take (1 : Int).toNat), bt263.2)) else (none)) else (if bt263.1 = 1 then (if 1 ≤ (t260.length : Int) then (some ((t260.drop (1 : Int).toNat), bt263.2)) else (none)) else (some (t260, bt263.2)))))
theorem spec_l11Fields.mono : ∀ a0 a1 k, LeO (spec_l11Fields.f k a0 a1) (spec_l11Fields.f (k + 1) a0 a1) := by
 intro a0 a1 k
 unfold spec_l11Fields.f
 repeat' first
   | (with_reducible exact spec_l1Rd_pick.mono _ _ _ _)
   | (with_reducible exact LeO.refl _)
   | (with_reducible exact LeO.none _)
   | (with_reducible refine LeO.ite ?_ ?_)
   | (with_reducible refine LeO.bind ?_ (fun _ => ?_))
   | exact spec_l1Rd_pick.mono _ _ _ _
   | exact LeO.none _
   | refine LeO.ite ?_ ?_
   | refine LeO.bind ?_ (fun _ => ?_)
set_option maxHeartbeats 8000000 in
set_option maxRecDepth 100000 in
theorem spec_l11Fields.calls (k : Nat) (g : Nat) (s0_0 : List Int) (s0_1 : Int) (r1 : List (S75)) (r2 : Int) (w0 w : World) (hI : IsS99 w0 w g s0_0 s0_1) (hB : Below w0.heap.size w0 w) (h : spec_l11Fields.f k s0_0 s0_1 = some (r1, r2)) :
  Calls Tryd.prog 70 #[.pointer (some ⟨g, 0, none⟩)] w fun e w' => ∃ v0_ : Value, e = .returned (v0_) ∧ Kd.Q k75 75 w' w.heap.size (fun _ => True) v0_ r1 ∧ IsS99 w0 w' g s0_0 r2 ∧ Below w0.heap.size w0 w' ∧ KeepBut w w' g none := by
 have HI0 := Aside0.mk hI
 have HK := Aside0.mk (KeepBut.refl w g none)
 have HL := Aside0.mk hB.size
 clear hI
 have HW0 := Aside0.mk hB.size
 have HB := Aside0.mk hB
 clear hB
 have H : ((spec_l10Fields.f).bind fun t260 => ((spec_l1Rd_pick.f k s0_0 s0_1 4).bind fun bt263 => (if bt263.1 = 0 then (if 1 ≤ (t260.length : Int) then (some ((t260.take (1 : Int).toNat), bt263.2)) else (none)) else (if bt263.1 = 1 then (if 1 ≤ (t260.length : Int) then (some ((t260.drop (1 : Int).toNat), bt263.2)) else (none)) else (some (t260, bt263.2)))))) = some (r1, r2) := h
 clear h
 replace H := Option.bind_eq_some_iff.mp H
 obtain ⟨t260, A20, H⟩ := H
 replace H : ((spec_l1Rd_pick.f k s0_0 s0_1 4).bind fun bt263 => (if bt263.1 = 0 then (if 1 ≤ (t260.length : Int) then (some ((t260.take (1 : Int).toNat), bt263.2)) else (none)) else (if bt263.1 = 1 then (if 1 ≤ (t260.length : Int) then (some ((t260.drop (1 : Int).toNat), bt263.2)) else (none)) else (some (t260, bt263.2))))) = some (r1, r2) := H
 have A2 := Aside0.mk A20
 clear A20
 replace H := Option.bind_eq_some_iff.mp H
 obtain ⟨⟨t263, t264⟩, A30, H⟩ := H
 replace H : (if t263 = 0 then (if 1 ≤ (t260.length : Int) then (some ((t260.take (1 : Int).toNat), t264)) else (none)) else (if t263 = 1 then (if 1 ≤ (t260.length : Int) then (some ((t260.drop (1 : Int).toNat), t264)) else (none)) else (some (t260, t264)))) = some (r1, r2) := H
 have A3 := Aside0.mk A30
 clear A30
 by_cases c4 : t263 = 0
 ·rw [if_pos c4] at H
  have c4b0 : (t263 == 0) = true := beq_iff_eq.mpr c4
  have c4b1 : (t263 != 0) = false := bne_eq_false_iff_eq.mpr c4
  clear c4
  by_cases c5 : 1 ≤ (t260.length : Int)
  ·rw [if_pos c5] at H
   have c5b0 := eq_true c5
   have c5b1 : decide (1 ≤ (t260.length : Int)) = true := decide_eq_true c5
   clear c5
   obtain ⟨y265, hy265⟩ : ∃ y_ : List (S75), y_ = (t260.take (1 : Int).toNat) := ⟨_, rfl⟩
   replace H : (some (y265, t264)) = some (r1, r2) := by first | (rw [hy265]; with_reducible exact H) | (have H2_ := (Option.bind_some _ _).symm.trans H; rw [hy265]; with_reducible exact H2_) | (have H2_ := (Option.bind_some _ _).symm.trans H; with_reducible exact H2_) | with_reducible exact H | (rw [hy265]; exact H) | exact H
   have Ny265 := Aside0.mk hy265
   clear hy265
   simp only [Option.some.injEq, Prod.mk.injEq] at H
   obtain ⟨rfl, rfl⟩ := H
   go_enter Tryd.func70, Tryd.ntmps70
   go_wp2_with (first | ((with_reducible refine gate_callee (f := 96) rfl ?_); refine goesL_ (some 4) rfl rfl Tryd.func96 u20_ rfl #[] rfl u1_ ?_; (with_reducible refine (spec_l10Fields.calls  t260 _ A2.out).mono ?_); rintro e w6 ⟨v261, rfl, ho0, hb⟩; refine ⟨_, rfl, ?_⟩; have n0_ := Aside0.mk (Kd.R_lower ho0 (keep_size (w := w) (g := g) (row := none) u2_)); have n1_ := Aside0.mk (IsS99.below u6_ hb); have n2_ := Aside0.mk (KeepBut.trans u2_ (KeepBut.of_below hb g none) (.inl rfl)); have n3_ := Aside0.mk (below_step u5_ hb); clear HI0; clear HK; clear HB; have HO262 := n0_; have HI0 := n1_; have HK := n2_; have HB := n3_; clear n0_ n1_ n2_ n3_; (try clear hb); (try clear hb2); (try clear hk); (try clear hi); (try clear ho0)) | ((with_reducible refine gate_callee (f := 78) rfl ?_); refine goesL_ (some 6) rfl rfl Tryd.func78 u20_ rfl #[.pointer (some ⟨g, 0, none⟩), .int .i64 4] rfl u1_ ?_; (with_reducible refine (spec_l1Rd_pick.calls k g s0_0 s0_1 4 t263 t264 w0 _ ?side1 ?side2 A3.out).mono ?_); (case side1 => repeat (first | (with_reducible first | exact HI0.out | apply IsS99.alloc | apply IsS99.drewN | apply IsS99.drew | apply IsS99.set_1) | exact HI0.out)); (case side2 => repeat (first | (with_reducible first | exact HB.out | apply below_alloc | apply pw_below_drewN | apply below_drew1 | refine below_set ?_ (IsS99.ge HI0.out)) | exact HB.out)); rintro e w7 ⟨rfl, hi, hb, hk⟩; refine ⟨_, rfl, ?_⟩; have n0_ := Aside0.mk (Kd.R_mono (Kd.R_keep (IsS99.apart (show IsS99 w0 _ g s0_0 s0_1 from by repeat (first | (with_reducible first | exact HI0.out | apply IsS99.alloc | apply IsS99.drewN | apply IsS99.drew | apply IsS99.set_1) | exact HI0.out)) u60_ u31_) hk (fun _ h => h.2)) (fun _ h => h.1)); have n1_ := Aside0.mk (KeepBut.trans u2_ hk (.inl rfl)); have n2_ := Aside0.mk (hb); have n3_ := Aside0.mk (hi); clear HO262; clear HK; clear HB; clear HI0; have HO262 := n0_; have HK := n1_; have HB := n2_; have HI0 := n3_; clear n0_ n1_ n2_ n3_; (try clear hb); (try clear hb2); (try clear hk); (try clear hi); obtain ⟨Ao8, co8, eo8⟩ := Kd.R_slice HO262.out; subst eo8; have q9 : (1 : Int) ≤ ((t260.length : Int) : Int) := of_decide_eq_true u3_; obtain ⟨i09, hi09, _, hsz9, _⟩ := info_parts info75; have hcut9 := cut_to (P := Tryd.prog) 34 75 .i64 Tryd.underlying34 hi09 Ao8 t260.length co8 1 u44_ q9 (Kd.R_reads' HO262.out).2.1; have hr9 := Kd.R_take (m := (1 : Int).toNat) HO262.out u44_; have hy9 : y265.length = (1 : Int).toNat := (by rw [Ny265.out, List.length_take]; omega); rw [← Ny265.out] at hr9; rw [← hy9] at hr9 hcut9; clear hy9 hi09 hsz9 HO262; have HO267 := Aside0.mk hr9; clear hr9; replace q9 := eq_true q9))
   go_ret
   exact ⟨_, by first | rfl | (simp [errW_none, errW_some] <;> rfl) | (simp [*, errW_none, errW_some] <;> rfl), Kd.Q_of_R (by (with_reducible repeat (first | apply Kd.R_alloc | apply Kd.R_drewN | apply Kd.R_drew)); exact HO267.out), u6_, u5_, u2_⟩
  ·rw [if_neg c5] at H
   exact absurd H u43_
 ·rw [if_neg c4] at H
  have c4b0 : (t263 == 0) = false := beq_eq_false_iff_ne.mpr c4
  have c4b1 : (t263 != 0) = true := bne_iff_ne.mpr c4
  by_cases c10 : t263 = 1
  ·rw [if_pos c10] at H
   have c10b0 : (t263 == 1) = true := beq_iff_eq.mpr c10
   have c10b1 : (t263 != 1) = false := bne_eq_false_iff_eq.mpr c10
   clear c10
   by_cases c11 : 1 ≤ (t260.length : Int)
   ·rw [if_pos c11] at H
    have c11b0 := eq_true c11
    have c11b1 : decide (1 ≤ (t260.length : Int)) = true := decide_eq_true c11
    clear c11
    obtain ⟨y268, hy268⟩ : ∃ y_ : List (S75), y_ = (t260.drop (1 : Int).toNat) := ⟨_, rfl⟩
    replace H : (some (y268, t264)) = some (r1, r2) := by first | (rw [hy268]; with_reducible exact H) | (have H2_ := (Option.bind_some _ _).symm.trans H; rw [hy268]; with_reducible exact H2_) | (have H2_ := (Option.bind_some _ _).symm.trans H; with_reducible exact H2_) | with_reducible exact H | (rw [hy268]; exact H) | exact H
    have Ny268 := Aside0.mk hy268
    clear hy268
    simp only [Option.some.injEq, Prod.mk.injEq] at H
    obtain ⟨rfl, rfl⟩ := H
    go_enter Tryd.func70, Tryd.ntmps70
    go_wp2_with (first | ((with_reducible refine gate_callee (f := 96) rfl ?_); refine goesL_ (some 4) rfl rfl Tryd.func96 u20_ rfl #[] rfl u1_ ?_; (with_reducible refine (spec_l10Fields.calls  t260 _ A2.out).mono ?_); rintro e w12 ⟨v261, rfl, ho0, hb⟩; refine ⟨_, rfl, ?_⟩; have n0_ := Aside0.mk (Kd.R_lower ho0 (keep_size (w := w) (g := g) (row := none) u2_)); have n1_ := Aside0.mk (IsS99.below u6_ hb); have n2_ := Aside0.mk (KeepBut.trans u2_ (KeepBut.of_below hb g none) (.inl rfl)); have n3_ := Aside0.mk (below_step u5_ hb); clear HI0; clear HK; clear HB; have HO262 := n0_; have HI0 := n1_; have HK := n2_; have HB := n3_; clear n0_ n1_ n2_ n3_; (try clear hb); (try clear hb2); (try clear hk); (try clear hi); (try clear ho0)) | ((with_reducible refine gate_callee (f := 78) rfl ?_); refine goesL_ (some 6) rfl rfl Tryd.func78 u20_ rfl #[.pointer (some ⟨g, 0, none⟩), .int .i64 4] rfl u1_ ?_; (with_reducible refine (spec_l1Rd_pick.calls k g s0_0 s0_1 4 t263 t264 w0 _ ?side1 ?side2 A3.out).mono ?_); (case side1 => repeat (first | (with_reducible first | exact HI0.out | apply IsS99.alloc | apply IsS99.drewN | apply IsS99.drew | apply IsS99.set_1) | exact HI0.out)); (case side2 => repeat (first | (with_reducible first | exact HB.out | apply below_alloc | apply pw_below_drewN | apply below_drew1 | refine below_set ?_ (IsS99.ge HI0.out)) | exact HB.out)); rintro e w13 ⟨rfl, hi, hb, hk⟩; refine ⟨_, rfl, ?_⟩; have n0_ := Aside0.mk (Kd.R_mono (Kd.R_keep (IsS99.apart (show IsS99 w0 _ g s0_0 s0_1 from by repeat (first | (with_reducible first | exact HI0.out | apply IsS99.alloc | apply IsS99.drewN | apply IsS99.drew | apply IsS99.set_1) | exact HI0.out)) u60_ u31_) hk (fun _ h => h.2)) (fun _ h => h.1)); have n1_ := Aside0.mk (KeepBut.trans u2_ hk (.inl rfl)); have n2_ := Aside0.mk (hb); have n3_ := Aside0.mk (hi); clear HO262; clear HK; clear HB; clear HI0; have HO262 := n0_; have HK := n1_; have HB := n2_; have HI0 := n3_; clear n0_ n1_ n2_ n3_; (try clear hb); (try clear hb2); (try clear hk); (try clear hi); obtain ⟨Ao14, co14, eo14⟩ := Kd.R_slice HO262.out; subst eo14; have q15 : (1 : Int) ≤ ((t260.length : Int) : Int) := of_decide_eq_true u3_; obtain ⟨i015, hi015, _, hsz15, _⟩ := info_parts info75; have hcut15 := cut_from (P := Tryd.prog) 34 75 .i64 Tryd.underlying34 hi015 3 hsz15 Ao14 t260.length co14 1 u44_ q15; have hr15 := Kd.Q_drop (k := (1 : Int).toNat) (Kd.Q_of_R HO262.out) u44_; obtain ⟨A15, hA15⟩ : ∃ A1, A1 = (if co14 = (1 : Int).toNat then Ao14 else (Ao14 : Option Addr).map (·.add ((1 : Int).toNat * 3))) := ⟨_, rfl⟩; obtain ⟨c15, hc15⟩ : ∃ c1, c1 = co14 - (1 : Int).toNat := ⟨_, rfl⟩; have hy15 : y268.length = t260.length - (1 : Int).toNat := (by rw [Ny268.out, List.length_drop]); rw [← Ny268.out] at hr15; rw [← hy15, ← hA15, ← hc15] at hcut15; replace hr15 : Kd.Q k75 75 w13 w.heap.size (fun _ => True) (.slice A15 y268.length c15) y268 := (by rw [hA15, hc15, hy15]; exact hr15); have HE15 : Aside0 ((Value.slice A15 y268.length c15).ownBlock = (.slice Ao14 t260.length co14 : Value).ownBlock) := ⟨by rw [hA15]; split <;> (cases (Ao14 : Option Addr) <;> rfl)⟩; clear hy15 hi015 hsz15 HO262 hA15 hc15; have HO270 := Aside0.mk hr15; clear hr15; replace q15 := eq_true q15))
    go_ret
    exact ⟨_, u4_, by (with_reducible repeat (first | apply Kd.Q_alloc | apply Kd.Q_drewN | apply Kd.Q_drew)); exact HO270.out, u6_, u5_, u2_⟩
   ·rw [if_neg c11] at H
    exact absurd H u43_
  ·rw [if_neg c10] at H
   have c10b0 : (t263 == 1) = false := beq_eq_false_iff_ne.mpr c10
   have c10b1 : (t263 != 1) = true := bne_iff_ne.mpr c10
   simp only [Option.some.injEq, Prod.mk.injEq] at H
   obtain ⟨rfl, rfl⟩ := H
   go_enter Tryd.func70, Tryd.ntmps70
   go_wp2_with (first | ((with_reducible refine gate_callee (f := 96) rfl ?_); refine goesL_ (some 4) rfl rfl Tryd.func96 u20_ rfl #[] rfl u1_ ?_; (with_reducible refine (spec_l10Fields.calls  t260 _ A2.out).mono ?_); rintro e w16 ⟨v261, rfl, ho0, hb⟩; refine ⟨_, rfl, ?_⟩; have n0_ := Aside0.mk (Kd.R_lower ho0 (keep_size (w := w) (g := g) (row := none) u2_)); have n1_ := Aside0.mk (IsS99.below u6_ hb); have n2_ := Aside0.mk (KeepBut.trans u2_ (KeepBut.of_below hb g none) (.inl rfl)); have n3_ := Aside0.mk (below_step u5_ hb); clear HI0; clear HK; clear HB; have HO262 := n0_; have HI0 := n1_; have HK := n2_; have HB := n3_; clear n0_ n1_ n2_ n3_; (try clear hb); (try clear hb2); (try clear hk); (try clear hi); (try clear ho0)) | ((with_reducible refine gate_callee (f := 78) rfl ?_); refine goesL_ (some 6) rfl rfl Tryd.func78 u20_ rfl #[.pointer (some ⟨g, 0, none⟩), .int .i64 4] rfl u1_ ?_; (with_reducible refine (spec_l1Rd_pick.calls k g s0_0 s0_1 4 t263 t264 w0 _ ?side1 ?side2 A3.out).mono ?_); (case side1 => repeat (first | (with_reducible first | exact HI0.out | apply IsS99.alloc | apply IsS99.drewN | apply IsS99.drew | apply IsS99.set_1) | exact HI0.out)); (case side2 => repeat (first | (with_reducible first | exact HB.out | apply below_alloc | apply pw_below_drewN | apply below_drew1 | refine below_set ?_ (IsS99.ge HI0.out)) | exact HB.out)); rintro e w17 ⟨rfl, hi, hb, hk⟩; refine ⟨_, rfl, ?_⟩; have n0_ := Aside0.mk (Kd.R_mono (Kd.R_keep (IsS99.apart (show IsS99 w0 _ g s0_0 s0_1 from by repeat (first | (with_reducible first | exact HI0.out | apply IsS99.alloc | apply IsS99.drewN | apply IsS99.drew | apply IsS99.set_1) | exact HI0.out)) u60_ u31_) hk (fun _ h => h.2)) (fun _ h => h.1)); have n1_ := Aside0.mk (KeepBut.trans u2_ hk (.inl rfl)); have n2_ := Aside0.mk (hb); have n3_ := Aside0.mk (hi); clear HO262; clear HK; clear HB; clear HI0; have HO262 := n0_; have HK := n1_; have HB := n2_; have HI0 := n3_; clear n0_ n1_ n2_ n3_; (try clear hb); (try clear hb2); (try clear hk); (try clear hi)))
   go_ret
   exact ⟨_, by first | rfl | (simp [errW_none, errW_some] <;> rfl) | (simp [*, errW_none, errW_some] <;> rfl), Kd.Q_of_R u60_, u6_, u5_, u2_⟩

/-! ### spec_l1Rd_one: function 79 -/
def spec_l1Rd_one.f (k : Nat) (s0_0 : List Int) (s0_1 : Int) (l1 : List Int) : Option (Int × Int) := (spec_l1Rd_pick.f k s0_0 s0_1 (l1.length : Int)).bind fun bt271 => (if 0 ≤ bt271.1 then (if bt271.1 < (l1.length : Int) then (some (rd l1 bt271.1, bt271.2)) else (none)) else (none))
theorem spec_l1Rd_one.mono : ∀ a0 a1 a2 k, LeO (spec_l1Rd_one.f k a0 a1 a2) (spec_l1Rd_one.f (k + 1) a0 a1 a2) := by
 intro a0 a1 a2 k
 unfold spec_l1Rd_one.f
 repeat' first
   | (with_reducible exact spec_l1Rd_pick.mono _ _ _ _)
   | (with_reducible exact LeO.refl _)
   | (with_reducible exact LeO.none _)
   | (with_reducible refine LeO.ite ?_ ?_)
   | (with_reducible refine LeO.bind ?_ (fun _ => ?_))
   | exact spec_l1Rd_pick.mono _ _ _ _
   | exact LeO.none _
   | refine LeO.ite ?_ ?_
   | refine LeO.bind ?_ (fun _ => ?_)
set_option maxHeartbeats 8000000 in
set_option maxRecDepth 100000 in
theorem spec_l1Rd_one.calls (k : Nat) (g : Nat) (s0_0 : List Int) (s0_1 : Int) (A1 : Option Addr) (c1 : Nat) (l1 : List Int) (r1 : Int) (r2 : Int) (w0 w : World) (hI : IsS99 w0 w g s0_0 s0_1) (hB : Below w0.heap.size w0 w) (hr1 : Kd.C (Kd.int .i64) w A1 l1.length l1) (hc1 : l1.length ≤ c1) (hf1 : ∀ ad, A1 = some ad → 0 < l1.length → ad.block ≠ g) (h : spec_l1Rd_one.f k s0_0 s0_1 l1 = some (r1, r2)) :
  Calls Tryd.prog 79 #[.pointer (some ⟨g, 0, none⟩), .slice A1 l1.length c1] w fun e w' => e = .returned (.int .i64 r1) ∧ IsS99 w0 w' g s0_0 r2 ∧ Below w0.heap.size w0 w' ∧ KeepBut w w' g none := by
 have HR1 := Aside0.mk hr1
 have HC1 := Aside0.mk hc1
 clear hr1 hc1
 have HI0 := Aside0.mk hI
 have HK := Aside0.mk (KeepBut.refl w g none)
 have HL := Aside0.mk hB.size
 clear hI
 have HW0 := Aside0.mk hB.size
 have HB := Aside0.mk hB
 clear hB
 have H : ((spec_l1Rd_pick.f k s0_0 s0_1 (l1.length : Int)).bind fun bt271 => (if 0 ≤ bt271.1 then (if bt271.1 < (l1.length : Int) then (some (rd l1 bt271.1, bt271.2)) else (none)) else (none))) = some (r1, r2) := h
 clear h
 replace H := Option.bind_eq_some_iff.mp H
 obtain ⟨⟨t271, t272⟩, A30, H⟩ := H
 replace H : (if 0 ≤ t271 then (if t271 < (l1.length : Int) then (some (rd l1 t271, t272)) else (none)) else (none)) = some (r1, r2) := H
 have A3 := Aside0.mk A30
 clear A30
 by_cases c4 : 0 ≤ t271
 ·rw [if_pos c4] at H
  have c4b0 : decide (0 ≤ t271) = true := decide_eq_true c4
  clear c4
  by_cases c5 : t271 < (l1.length : Int)
  ·rw [if_pos c5] at H
   have c5b0 : decide (t271 < (l1.length : Int)) = true := decide_eq_true c5
   clear c5
   simp only [Option.some.injEq, Prod.mk.injEq] at H
   obtain ⟨rfl, rfl⟩ := H
   go_enter Tryd.func79, Tryd.ntmps79
   go_wp2_with (first | ((with_reducible refine gate_callee (f := 78) rfl ?_); refine goesL_ (some 9) rfl rfl Tryd.func78 u20_ rfl #[.pointer (some ⟨g, 0, none⟩), .int .i64 (l1.length : Int)] rfl u1_ ?_; (with_reducible refine (spec_l1Rd_pick.calls k g s0_0 s0_1 (l1.length : Int) t271 t272 w0 _ ?side1 ?side2 A3.out).mono ?_); (case side1 => repeat (first | (with_reducible first | exact HI0.out | apply IsS99.alloc | apply IsS99.drewN | apply IsS99.drew | apply IsS99.set_1) | exact HI0.out)); (case side2 => repeat (first | (with_reducible first | exact HB.out | apply below_alloc | apply pw_below_drewN | apply below_drew1 | refine below_set ?_ (IsS99.ge HI0.out)) | exact HB.out)); rintro e w6 ⟨rfl, hi, hb, hk⟩; refine ⟨_, rfl, ?_⟩; have n0_ := Aside0.mk (KeepBut.trans u2_ hk (.inl rfl)); have n1_ := Aside0.mk (hb); have n2_ := Aside0.mk (hi); clear HK; clear HB; clear HI0; have HK := n0_; have HB := n1_; have HI0 := n2_; clear n0_ n1_ n2_; (try clear hb); (try clear hb2); (try clear hk); (try clear hi); have p273 : 0 ≤ (t271 : Int) := of_decide_eq_true u3_; have q273 : t271 < (l1.length : Int) := of_decide_eq_true u3_; obtain ⟨ad273, e273, hx273_0⟩ := Kd.at_int HR1.out t271 p273 q273; cases e273; replace hx273_0 := keep_cell HK.out hx273_0 (by first | (rw [add_block]; exact hf1 _ rfl u44_) | exact hf1 _ rfl u44_ | exact hf1 ad273 rfl u44_); replace p273 := eq_true p273; replace q273 := eq_true q273))
   go_ret
   exact ⟨u4_, u6_, u5_, u2_⟩
  ·rw [if_neg c5] at H
   exact absurd H u43_
 ·rw [if_neg c4] at H
  exact absurd H u43_

/-! ### spec_l1Rd_of: function 84 -/
def spec_l1Rd_of.f (k : Nat) (s0_0 : List Int) (s0_1 : Int) (l1 : List ByteArray) : Option (ByteArray × Int) := (spec_l1Rd_pick.f k s0_0 s0_1 (l1.length : Int)).bind fun bt274 => (if 0 ≤ bt274.1 then (if bt274.1 < (l1.length : Int) then (some (rdOf ByteArray.empty l1 bt274.1, bt274.2)) else (none)) else (none))
theorem spec_l1Rd_of.mono : ∀ a0 a1 a2 k, LeO (spec_l1Rd_of.f k a0 a1 a2) (spec_l1Rd_of.f (k + 1) a0 a1 a2) := by
 intro a0 a1 a2 k
 unfold spec_l1Rd_of.f
 repeat' first
   | (with_reducible exact spec_l1Rd_pick.mono _ _ _ _)
   | (with_reducible exact LeO.refl _)
   | (with_reducible exact LeO.none _)
   | (with_reducible refine LeO.ite ?_ ?_)
   | (with_reducible refine LeO.bind ?_ (fun _ => ?_))
   | exact spec_l1Rd_pick.mono _ _ _ _
   | exact LeO.none _
   | refine LeO.ite ?_ ?_
   | refine LeO.bind ?_ (fun _ => ?_)
set_option maxHeartbeats 8000000 in
set_option maxRecDepth 100000 in
theorem spec_l1Rd_of.calls (k : Nat) (g : Nat) (s0_0 : List Int) (s0_1 : Int) (A1 : Option Addr) (c1 : Nat) (l1 : List ByteArray) (r1 : ByteArray) (r2 : Int) (w0 w : World) (hI : IsS99 w0 w g s0_0 s0_1) (hB : Below w0.heap.size w0 w) (hr1 : Kd.C Kd.string w A1 l1.length l1) (hc1 : l1.length ≤ c1) (hf1 : ∀ ad, A1 = some ad → 0 < l1.length → ad.block ≠ g) (h : spec_l1Rd_of.f k s0_0 s0_1 l1 = some (r1, r2)) :
  Calls Tryd.prog 84 #[.pointer (some ⟨g, 0, none⟩), .slice A1 l1.length c1] w fun e w' => e = .returned (.string r1) ∧ IsS99 w0 w' g s0_0 r2 ∧ Below w0.heap.size w0 w' ∧ KeepBut w w' g none := by
 have HR1 := Aside0.mk hr1
 have HC1 := Aside0.mk hc1
 clear hr1 hc1
 have HI0 := Aside0.mk hI
 have HK := Aside0.mk (KeepBut.refl w g none)
 have HL := Aside0.mk hB.size
 clear hI
 have HW0 := Aside0.mk hB.size
 have HB := Aside0.mk hB
 clear hB
 have H : ((spec_l1Rd_pick.f k s0_0 s0_1 (l1.length : Int)).bind fun bt274 => (if 0 ≤ bt274.1 then (if bt274.1 < (l1.length : Int) then (some (rdOf ByteArray.empty l1 bt274.1, bt274.2)) else (none)) else (none))) = some (r1, r2) := h
 clear h
 replace H := Option.bind_eq_some_iff.mp H
 obtain ⟨⟨t274, t275⟩, A30, H⟩ := H
 replace H : (if 0 ≤ t274 then (if t274 < (l1.length : Int) then (some (rdOf ByteArray.empty l1 t274, t275)) else (none)) else (none)) = some (r1, r2) := H
 have A3 := Aside0.mk A30
 clear A30
 by_cases c4 : 0 ≤ t274
 ·rw [if_pos c4] at H
  have c4b0 : decide (0 ≤ t274) = true := decide_eq_true c4
  clear c4
  by_cases c5 : t274 < (l1.length : Int)
  ·rw [if_pos c5] at H
   have c5b0 : decide (t274 < (l1.length : Int)) = true := decide_eq_true c5
   clear c5
   simp only [Option.some.injEq, Prod.mk.injEq] at H
   obtain ⟨rfl, rfl⟩ := H
   go_enter Tryd.func84, Tryd.ntmps84
   go_wp2_with (first | ((with_reducible refine gate_callee (f := 78) rfl ?_); refine goesL_ (some 9) rfl rfl Tryd.func78 u20_ rfl #[.pointer (some ⟨g, 0, none⟩), .int .i64 (l1.length : Int)] rfl u1_ ?_; (with_reducible refine (spec_l1Rd_pick.calls k g s0_0 s0_1 (l1.length : Int) t274 t275 w0 _ ?side1 ?side2 A3.out).mono ?_); (case side1 => repeat (first | (with_reducible first | exact HI0.out | apply IsS99.alloc | apply IsS99.drewN | apply IsS99.drew | apply IsS99.set_1) | exact HI0.out)); (case side2 => repeat (first | (with_reducible first | exact HB.out | apply below_alloc | apply pw_below_drewN | apply below_drew1 | refine below_set ?_ (IsS99.ge HI0.out)) | exact HB.out)); rintro e w6 ⟨rfl, hi, hb, hk⟩; refine ⟨_, rfl, ?_⟩; have n0_ := Aside0.mk (KeepBut.trans u2_ hk (.inl rfl)); have n1_ := Aside0.mk (hb); have n2_ := Aside0.mk (hi); clear HK; clear HB; clear HI0; have HK := n0_; have HB := n1_; have HI0 := n2_; clear n0_ n1_ n2_; (try clear hb); (try clear hb2); (try clear hk); (try clear hi); have p276 : 0 ≤ (t274 : Int) := of_decide_eq_true u3_; have q276 : t274 < (l1.length : Int) := of_decide_eq_true u3_; obtain ⟨ad276, e276, hx276_0⟩ := Kd.at_string HR1.out t274 p276 q276; cases e276; replace hx276_0 := keep_cell HK.out hx276_0 (by first | (rw [add_block]; exact hf1 _ rfl u44_) | exact hf1 _ rfl u44_ | exact hf1 ad276 rfl u44_); replace p276 := eq_true p276; replace q276 := eq_true q276))
   go_ret
   exact ⟨u4_, u6_, u5_, u2_⟩
  ·rw [if_neg c5] at H
   exact absurd H u43_
 ·rw [if_neg c4] at H
  exact absurd H u43_

/-! ### spec_l11AnyFields: function 58 -/
def spec_l11AnyFields.f (k : Nat) (s0_0 : List Int) (s0_1 : Int) : Option ((List (S75)) × Int) := (some (([] : List (S75)) : List (S75))).bind fun y277 => ((spec_l11Fields.f k s0_0 s0_1).bind fun bt280 => (if y277.length + bt280.1.length < 4398046511104 then ((some (y277 ++ bt280.1 : List (S75))).bind fun y284 => ((spec_l1Rd_pick.f k s0_0 bt280.2 12).bind fun bt287 => (if bt287.1 = 0 then ((spec_l1Rd_of.f k s0_0 bt287.2 (([(⟨#[116, 105, 116, 108, 101]⟩ : ByteArray), (⟨#[122]⟩ : ByteArray), (⟨#[]⟩ : ByteArray)] : List ByteArray))).bind fun bt292 => ((spec_l1Rd_pick.f k s0_0 bt292.2 5).bind fun bt294 => ((spec_l1Rd_pick.f k s0_0 bt294.2 11).bind fun bt296 => (if y284.length < 4398046511104 then (some ((y284 ++ [(⟨bt292.1, bt294.1, bt296.1⟩ : S75)]), bt296.2)) else (none))))) else (if bt287.1 = 1 then ((spec_l1Rd_one.f k s0_0 bt287.2 (([0, 9, 10] : List Int))).bind fun bt304 => (if 0 < (y284.length : Int) then (some ((y284.set (0 : Int).toNat (⟨(rd_T75 y284 0).f0, (rd_T75 y284 0).f1, bt304.1⟩ : S75)), bt304.2)) else (none))) else (if bt287.1 = 2 then (some (([] : List (S75)), bt287.2)) else (some (y284, bt287.2))))))) else (none)))
theorem spec_l11AnyFields.mono : ∀ a0 a1 k, LeO (spec_l11AnyFields.f k a0 a1) (spec_l11AnyFields.f (k + 1) a0 a1) := by
 intro a0 a1 k
 unfold spec_l11AnyFields.f
 repeat' first
   | (with_reducible exact spec_l11Fields.mono _ _ _)
   | (with_reducible exact spec_l1Rd_of.mono _ _ _ _)
   | (with_reducible exact spec_l1Rd_one.mono _ _ _ _)
   | (with_reducible exact spec_l1Rd_pick.mono _ _ _ _)
   | (with_reducible exact LeO.refl _)
   | (with_reducible exact LeO.none _)
   | (with_reducible refine LeO.ite ?_ ?_)
   | (with_reducible refine LeO.bind ?_ (fun _ => ?_))
   | exact spec_l11Fields.mono _ _ _
   | exact spec_l1Rd_of.mono _ _ _ _
   | exact spec_l1Rd_one.mono _ _ _ _
   | exact spec_l1Rd_pick.mono _ _ _ _
   | exact LeO.none _
   | refine LeO.ite ?_ ?_
   | refine LeO.bind ?_ (fun _ => ?_)
set_option maxHeartbeats 8000000 in
set_option maxRecDepth 100000 in
theorem spec_l11AnyFields.calls (k : Nat) (g : Nat) (s0_0 : List Int) (s0_1 : Int) (r1 : List (S75)) (r2 : Int) (w0 w : World) (hI : IsS99 w0 w g s0_0 s0_1) (hB : Below w0.heap.size w0 w) (h : spec_l11AnyFields.f k s0_0 s0_1 = some (r1, r2)) :
  Calls Tryd.prog 58 #[.pointer (some ⟨g, 0, none⟩)] w fun e w' => ∃ v0_ : Value, e = .returned (v0_) ∧ Kd.R k75 75 w' w.heap.size (fun _ => True) v0_ r1 ∧ IsS99 w0 w' g s0_0 r2 ∧ Below w0.heap.size w0 w' ∧ KeepBut w w' g none := by
 have hu75 := Tryd.underlying75
 have HI0 := Aside0.mk hI
 have HK := Aside0.mk (KeepBut.refl w g none)
 have HL := Aside0.mk hB.size
 clear hI
 have HW0 := Aside0.mk hB.size
 have HB := Aside0.mk hB
 clear hB
 have H : ((some (([] : List (S75)) : List (S75))).bind fun y277 => ((spec_l11Fields.f k s0_0 s0_1).bind fun bt280 => (if y277.length + bt280.1.length < 4398046511104 then ((some (y277 ++ bt280.1 : List (S75))).bind fun y284 => ((spec_l1Rd_pick.f k s0_0 bt280.2 12).bind fun bt287 => (if bt287.1 = 0 then ((spec_l1Rd_of.f k s0_0 bt287.2 (([(⟨#[116, 105, 116, 108, 101]⟩ : ByteArray), (⟨#[122]⟩ : ByteArray), (⟨#[]⟩ : ByteArray)] : List ByteArray))).bind fun bt292 => ((spec_l1Rd_pick.f k s0_0 bt292.2 5).bind fun bt294 => ((spec_l1Rd_pick.f k s0_0 bt294.2 11).bind fun bt296 => (if y284.length < 4398046511104 then (some ((y284 ++ [(⟨bt292.1, bt294.1, bt296.1⟩ : S75)]), bt296.2)) else (none))))) else (if bt287.1 = 1 then ((spec_l1Rd_one.f k s0_0 bt287.2 (([0, 9, 10] : List Int))).bind fun bt304 => (if 0 < (y284.length : Int) then (some ((y284.set (0 : Int).toNat (⟨(rd_T75 y284 0).f0, (rd_T75 y284 0).f1, bt304.1⟩ : S75)), bt304.2)) else (none))) else (if bt287.1 = 2 then (some (([] : List (S75)), bt287.2)) else (some (y284, bt287.2))))))) else (none)))) = some (r1, r2) := h
 clear h
 obtain ⟨y277, hy277⟩ : ∃ y_ : List (S75), y_ = (([] : List (S75))) := ⟨_, rfl⟩
 replace H : ((spec_l11Fields.f k s0_0 s0_1).bind fun bt280 => (if y277.length + bt280.1.length < 4398046511104 then ((some (y277 ++ bt280.1 : List (S75))).bind fun y284 => ((spec_l1Rd_pick.f k s0_0 bt280.2 12).bind fun bt287 => (if bt287.1 = 0 then ((spec_l1Rd_of.f k s0_0 bt287.2 (([(⟨#[116, 105, 116, 108, 101]⟩ : ByteArray), (⟨#[122]⟩ : ByteArray), (⟨#[]⟩ : ByteArray)] : List ByteArray))).bind fun bt292 => ((spec_l1Rd_pick.f k s0_0 bt292.2 5).bind fun bt294 => ((spec_l1Rd_pick.f k s0_0 bt294.2 11).bind fun bt296 => (if y284.length < 4398046511104 then (some ((y284 ++ [(⟨bt292.1, bt294.1, bt296.1⟩ : S75)]), bt296.2)) else (none))))) else (if bt287.1 = 1 then ((spec_l1Rd_one.f k s0_0 bt287.2 (([0, 9, 10] : List Int))).bind fun bt304 => (if 0 < (y284.length : Int) then (some ((y284.set (0 : Int).toNat (⟨(rd_T75 y284 0).f0, (rd_T75 y284 0).f1, bt304.1⟩ : S75)), bt304.2)) else (none))) else (if bt287.1 = 2 then (some (([] : List (S75)), bt287.2)) else (some (y284, bt287.2))))))) else (none))) = some (r1, r2) := by first | (rw [hy277]; with_reducible exact H) | (have H2_ := (Option.bind_some _ _).symm.trans H; rw [hy277]; with_reducible exact H2_) | (have H2_ := (Option.bind_some _ _).symm.trans H; with_reducible exact H2_) | with_reducible exact H | (rw [hy277]; exact H) | exact H
 have Ny277 := Aside0.mk hy277
 clear hy277
 replace H := Option.bind_eq_some_iff.mp H
 obtain ⟨⟨t280, t283⟩, A20, H⟩ := H
 replace H : (if y277.length + t280.length < 4398046511104 then ((some (y277 ++ t280 : List (S75))).bind fun y284 => ((spec_l1Rd_pick.f k s0_0 t283 12).bind fun bt287 => (if bt287.1 = 0 then ((spec_l1Rd_of.f k s0_0 bt287.2 (([(⟨#[116, 105, 116, 108, 101]⟩ : ByteArray), (⟨#[122]⟩ : ByteArray), (⟨#[]⟩ : ByteArray)] : List ByteArray))).bind fun bt292 => ((spec_l1Rd_pick.f k s0_0 bt292.2 5).bind fun bt294 => ((spec_l1Rd_pick.f k s0_0 bt294.2 11).bind fun bt296 => (if y284.length < 4398046511104 then (some ((y284 ++ [(⟨bt292.1, bt294.1, bt296.1⟩ : S75)]), bt296.2)) else (none))))) else (if bt287.1 = 1 then ((spec_l1Rd_one.f k s0_0 bt287.2 (([0, 9, 10] : List Int))).bind fun bt304 => (if 0 < (y284.length : Int) then (some ((y284.set (0 : Int).toNat (⟨(rd_T75 y284 0).f0, (rd_T75 y284 0).f1, bt304.1⟩ : S75)), bt304.2)) else (none))) else (if bt287.1 = 2 then (some (([] : List (S75)), bt287.2)) else (some (y284, bt287.2))))))) else (none)) = some (r1, r2) := H
 have A2 := Aside0.mk A20
 clear A20
 by_cases c3 : y277.length + t280.length < 4398046511104
 ·rw [if_pos c3] at H
  have LMc3 := Aside0.mk c3
  clear c3
  obtain ⟨y284, hy284⟩ : ∃ y_ : List (S75), y_ = (y277 ++ t280) := ⟨_, rfl⟩
  replace H : ((spec_l1Rd_pick.f k s0_0 t283 12).bind fun bt287 => (if bt287.1 = 0 then ((spec_l1Rd_of.f k s0_0 bt287.2 (([(⟨#[116, 105, 116, 108, 101]⟩ : ByteArray), (⟨#[122]⟩ : ByteArray), (⟨#[]⟩ : ByteArray)] : List ByteArray))).bind fun bt292 => ((spec_l1Rd_pick.f k s0_0 bt292.2 5).bind fun bt294 => ((spec_l1Rd_pick.f k s0_0 bt294.2 11).bind fun bt296 => (if y284.length < 4398046511104 then (some ((y284 ++ [(⟨bt292.1, bt294.1, bt296.1⟩ : S75)]), bt296.2)) else (none))))) else (if bt287.1 = 1 then ((spec_l1Rd_one.f k s0_0 bt287.2 (([0, 9, 10] : List Int))).bind fun bt304 => (if 0 < (y284.length : Int) then (some ((y284.set (0 : Int).toNat (⟨(rd_T75 y284 0).f0, (rd_T75 y284 0).f1, bt304.1⟩ : S75)), bt304.2)) else (none))) else (if bt287.1 = 2 then (some (([] : List (S75)), bt287.2)) else (some (y284, bt287.2)))))) = some (r1, r2) := by first | (rw [hy284]; with_reducible exact H) | (have H2_ := (Option.bind_some _ _).symm.trans H; rw [hy284]; with_reducible exact H2_) | (have H2_ := (Option.bind_some _ _).symm.trans H; with_reducible exact H2_) | with_reducible exact H | (rw [hy284]; exact H) | exact H
  have Ny284 := Aside0.mk hy284
  clear hy284
  replace H := Option.bind_eq_some_iff.mp H
  obtain ⟨⟨t287, t288⟩, A40, H⟩ := H
  replace H : (if t287 = 0 then ((spec_l1Rd_of.f k s0_0 t288 (([(⟨#[116, 105, 116, 108, 101]⟩ : ByteArray), (⟨#[122]⟩ : ByteArray), (⟨#[]⟩ : ByteArray)] : List ByteArray))).bind fun bt292 => ((spec_l1Rd_pick.f k s0_0 bt292.2 5).bind fun bt294 => ((spec_l1Rd_pick.f k s0_0 bt294.2 11).bind fun bt296 => (if y284.length < 4398046511104 then (some ((y284 ++ [(⟨bt292.1, bt294.1, bt296.1⟩ : S75)]), bt296.2)) else (none))))) else (if t287 = 1 then ((spec_l1Rd_one.f k s0_0 t288 (([0, 9, 10] : List Int))).bind fun bt304 => (if 0 < (y284.length : Int) then (some ((y284.set (0 : Int).toNat (⟨(rd_T75 y284 0).f0, (rd_T75 y284 0).f1, bt304.1⟩ : S75)), bt304.2)) else (none))) else (if t287 = 2 then (some (([] : List (S75)), t288)) else (some (y284, t288))))) = some (r1, r2) := H
  have A4 := Aside0.mk A40
  clear A40
  by_cases c5 : t287 = 0
  ·rw [if_pos c5] at H
   have c5b0 : (t287 == 0) = true := beq_iff_eq.mpr c5
   have c5b1 : (t287 != 0) = false := bne_eq_false_iff_eq.mpr c5
   clear c5
   obtain ⟨y289, hy289⟩ : ∃ y_ : List ByteArray, y_ = (([(⟨#[116, 105, 116, 108, 101]⟩ : ByteArray), (⟨#[122]⟩ : ByteArray), (⟨#[]⟩ : ByteArray)] : List ByteArray)) := ⟨_, rfl⟩
   replace H : ((spec_l1Rd_of.f k s0_0 t288 y289).bind fun bt292 => ((spec_l1Rd_pick.f k s0_0 bt292.2 5).bind fun bt294 => ((spec_l1Rd_pick.f k s0_0 bt294.2 11).bind fun bt296 => (if y284.length < 4398046511104 then (some ((y284 ++ [(⟨bt292.1, bt294.1, bt296.1⟩ : S75)]), bt296.2)) else (none))))) = some (r1, r2) := by first | (rw [hy289]; with_reducible exact H) | (have H2_ := (Option.bind_some _ _).symm.trans H; rw [hy289]; with_reducible exact H2_) | (have H2_ := (Option.bind_some _ _).symm.trans H; with_reducible exact H2_) | with_reducible exact H | (rw [hy289]; exact H) | exact H
   have Ny289 := Aside0.mk hy289
   clear hy289
   replace H := Option.bind_eq_some_iff.mp H
   obtain ⟨⟨t292, t293⟩, A60, H⟩ := H
   replace H : ((spec_l1Rd_pick.f k s0_0 t293 5).bind fun bt294 => ((spec_l1Rd_pick.f k s0_0 bt294.2 11).bind fun bt296 => (if y284.length < 4398046511104 then (some ((y284 ++ [(⟨t292, bt294.1, bt296.1⟩ : S75)]), bt296.2)) else (none)))) = some (r1, r2) := H
   have A6 := Aside0.mk A60
   clear A60
   replace H := Option.bind_eq_some_iff.mp H
   obtain ⟨⟨t294, t295⟩, A70, H⟩ := H
   replace H : ((spec_l1Rd_pick.f k s0_0 t295 11).bind fun bt296 => (if y284.length < 4398046511104 then (some ((y284 ++ [(⟨t292, t294, bt296.1⟩ : S75)]), bt296.2)) else (none))) = some (r1, r2) := H
   have A7 := Aside0.mk A70
   clear A70
   replace H := Option.bind_eq_some_iff.mp H
   obtain ⟨⟨t296, t297⟩, A80, H⟩ := H
   replace H : (if y284.length < 4398046511104 then (some ((y284 ++ [(⟨t292, t294, t296⟩ : S75)]), t297)) else (none)) = some (r1, r2) := H
   have A8 := Aside0.mk A80
   clear A80
   by_cases c9 : y284.length < 4398046511104
   ·rw [if_pos c9] at H
    have LMc9 := Aside0.mk c9
    clear c9
    obtain ⟨y298, hy298⟩ : ∃ y_ : List (S75), y_ = (y284 ++ [(⟨t292, t294, t296⟩ : S75)]) := ⟨_, rfl⟩
    replace H : (some (y298, t297)) = some (r1, r2) := by first | (rw [hy298]; with_reducible exact H) | (have H2_ := (Option.bind_some _ _).symm.trans H; rw [hy298]; with_reducible exact H2_) | (have H2_ := (Option.bind_some _ _).symm.trans H; with_reducible exact H2_) | with_reducible exact H | (rw [hy298]; exact H) | exact H
    have Ny298 := Aside0.mk hy298
    clear hy298
    simp only [Option.some.injEq, Prod.mk.injEq] at H
    obtain ⟨rfl, rfl⟩ := H
    go_enter Tryd.func58, Tryd.ntmps58
    go_wp2_with (first | ((with_reducible refine gate_dst (N := 4) rfl ?_); refine Kd.R_lit k75 _ 75 ?hg (N := 4) ?hd (xs := ([] : List (S75))) (inner := []) (ok := fun _ => True) (okp := fun _ => True) ?hr ?hp (fun _ hk => hk) trivial (Below.refl _ _) (Nat.le_refl _) u43_ ?_; (case hd => rfl); (case hg => rfl); (case hr => first | (go_simp; done) | (go_simp; rfl)); (case hp => exact (Reps.none _ _)); intro v278 w10 ho11 hb hg_ hnew_; clear hg_ hnew_; (first | rw [← Ny277.out] at ho11 | (simp only [Int.reduceToNat] at ho11; rw [← Ny277.out] at ho11)); have n0_ := Aside0.mk (Kd.R_lower ho11 (keep_size (w := w) (g := g) (row := none) u2_)); have n1_ := Aside0.mk (IsS99.below u6_ hb); have n2_ := Aside0.mk (KeepBut.trans u2_ (KeepBut.of_below hb g none) (.inl rfl)); have n3_ := Aside0.mk (below_step u5_ hb); clear HI0; clear HK; clear HB; have HO279 := n0_; have HI0 := n1_; have HK := n2_; have HB := n3_; clear n0_ n1_ n2_ n3_; clear hb ho11) | ((with_reducible refine gate_callee (f := 70) rfl ?_); refine goesL_ (some 6) rfl rfl Tryd.func70 u20_ rfl #[.pointer (some ⟨g, 0, none⟩)] rfl u1_ ?_; (with_reducible refine (spec_l11Fields.calls k g s0_0 s0_1 t280 t283 w0 _ ?side1 ?side2 A2.out).mono ?_); (case side1 => repeat (first | (with_reducible first | exact HI0.out | apply IsS99.alloc | apply IsS99.drewN | apply IsS99.drew | apply IsS99.set_1) | exact HI0.out)); (case side2 => repeat (first | (with_reducible first | exact HB.out | apply below_alloc | apply pw_below_drewN | apply below_drew1 | refine below_set ?_ (IsS99.ge HI0.out)) | exact HB.out)); rintro e w12 ⟨v281, rfl, ho0, hi, hb, hk⟩; refine ⟨_, rfl, ?_⟩; have n0_ := Aside0.mk (Kd.R_mono (Kd.R_told (Kd.R_oldK (IsS99.apart (show IsS99 w0 _ g s0_0 s0_1 from by repeat (first | (with_reducible first | exact HI0.out | apply IsS99.alloc | apply IsS99.drewN | apply IsS99.drew | apply IsS99.set_1) | exact HI0.out)) u34_ u31_) hk) (Kd.Q_base ho0)) (fun _ h_ => h_.1)); have n1_ := Aside0.mk (Kd.Q_lower (Kd.Q_new' ho0 (Kd.R_lt u34_)) (keep_size (w := w) (g := g) (row := none) u2_)); have n2_ := Aside0.mk (KeepBut.trans u2_ hk (.inl rfl)); have n3_ := Aside0.mk (hb); have n4_ := Aside0.mk (hi); clear HO279; clear HK; clear HB; clear HI0; have HO279 := n0_; have HO282 := n1_; have HK := n2_; have HB := n3_; have HI0 := n4_; clear n0_ n1_ n2_ n3_ n4_; (try clear hb); (try clear hb2); (try clear hk); (try clear hi); (try clear ho0); obtain ⟨Ao14, co14, eo14, _⟩ := Kd.Q_slice HO282.out; subst eo14) | ((with_reducible refine gate_builtin (b := .append) (xs := #[.tmp 4, .tmp 6]) rfl ?_); at_builtin; refine Kd.R_append_rows k75 w.heap.size rfl (.tmp 4) (.tmp 6) 34 75 (.agg #[(.string ⟨#[]⟩), (.int .i64 0), (.int .i64 0)]) 32 rfl Tryd.underlying34 info75 rfl u31_ u44_ v278 y277 t280 _ _ _ (fun k_ => some k_ ≠ (.slice Ao14 t280.length co14 : Value).ownBlock) (fun _ => False) rfl rfl ?aO ?aR (fun _ _ h => h) (fun _ h => h.elim) ?aF (Below.refl _ _) ?aS ?aL ?_; (case aR => repeat (first | exact (Kd.Q_reads' HO282.out).2.2 | (with_reducible refine Kd.C_alloc ?_ _) | (with_reducible refine Kd.C_drewN ?_ _) | (with_reducible refine Kd.C_drew ?_))); (case aF => exact (fun k_ hk => Kd.fresh' (Kd.Q_lt u14_) k_ hk)); (case aO => exact u53_); (case aS => exact (keep_size (w := w) (g := g) (row := none) u2_)); (case aL => have := LMc3.out; omega); intro v285 w13 ho hb hg hat; rw [← Ny284.out] at ho; have n0_ := Aside0.mk (IsS99.grown u6_ hg (IsS99.own_ne HI0.out HO279.out u31_)); have n1_ := Aside0.mk (Kd.Q_after (ok := (fun _ => True)) u14_ hg hat); have n2_ := Aside0.mk (below_weaken u5_ HL.out hb); have n3_ := Aside0.mk (KeepBut.trans u2_ (KeepBut.of_grown hg g) (Kd.R_base2 HO279.out)); have n4_ := Aside0.mk (ho); clear HI0; clear HO282; clear HB; clear HK; clear HO279; have HI0 := n0_; have HO282 := n1_; have HB := n2_; have HK := n3_; have HO286 := n4_; clear n0_ n1_ n2_ n3_ n4_; clear ho hb hg hat) | ((with_reducible refine gate_callee (f := 78) rfl ?_); refine goesL_ (some 9) rfl rfl Tryd.func78 u20_ rfl #[.pointer (some ⟨g, 0, none⟩), .int .i64 12] rfl u1_ ?_; (with_reducible refine (spec_l1Rd_pick.calls k g s0_0 t283 12 t287 t288 w0 _ ?side1 ?side2 A4.out).mono ?_); (case side1 => repeat (first | (with_reducible first | exact HI0.out | apply IsS99.alloc | apply IsS99.drewN | apply IsS99.drew | apply IsS99.set_1) | exact HI0.out)); (case side2 => repeat (first | (with_reducible first | exact HB.out | apply below_alloc | apply pw_below_drewN | apply below_drew1 | refine below_set ?_ (IsS99.ge HI0.out)) | exact HB.out)); rintro e w15 ⟨rfl, hi, hb, hk⟩; refine ⟨_, rfl, ?_⟩; have n0_ := Aside0.mk (Kd.Q_mono (Kd.Q_keep (IsS99.apartQ (show IsS99 w0 _ g s0_0 t283 from by repeat (first | (with_reducible first | exact HI0.out | apply IsS99.alloc | apply IsS99.drewN | apply IsS99.drew | apply IsS99.set_1) | exact HI0.out)) u14_ u31_) hk (fun _ h => h.2)) (fun _ h => h.1)); have n1_ := Aside0.mk (Kd.R_mono (Kd.R_keep (IsS99.apart (show IsS99 w0 _ g s0_0 t283 from by repeat (first | (with_reducible first | exact HI0.out | apply IsS99.alloc | apply IsS99.drewN | apply IsS99.drew | apply IsS99.set_1) | exact HI0.out)) u23_ u31_) hk (fun _ h => h.2)) (fun _ h => h.1)); have n2_ := Aside0.mk (KeepBut.trans u2_ hk (.inl rfl)); have n3_ := Aside0.mk (hb); have n4_ := Aside0.mk (hi); clear HO282; clear HO286; clear HK; clear HB; clear HI0; have HO282 := n0_; have HO286 := n1_; have HK := n2_; have HB := n3_; have HI0 := n4_; clear n0_ n1_ n2_ n3_ n4_; (try clear hb); (try clear hb2); (try clear hk); (try clear hi)) | ((with_reducible refine gate_dst (N := 14) rfl ?_); refine Kd.R_lit Kd.string _ 9 ?hg (N := 14) ?hd (xs := ([(⟨#[116, 105, 116, 108, 101]⟩ : ByteArray), (⟨#[122]⟩ : ByteArray), (⟨#[]⟩ : ByteArray)] : List ByteArray)) (inner := [.string (⟨#[116, 105, 116, 108, 101]⟩ : ByteArray), .string (⟨#[122]⟩ : ByteArray), .string (⟨#[]⟩ : ByteArray)]) (ok := fun _ => True) (okp := fun _ => True) ?hr ?hp (fun _ hk => hk) trivial (Below.refl _ _) (Nat.le_refl _) u43_ ?_; (case hd => rfl); (case hg => rfl); (case hr => first | (go_simp; done) | (go_simp; rfl)); (case hp => exact (Reps.one (show Kd.M Kd.string _ _ _ (⟨#[116, 105, 116, 108, 101]⟩ : ByteArray) [.string (⟨#[116, 105, 116, 108, 101]⟩ : ByteArray)] from rfl) (Reps.one (show Kd.M Kd.string _ _ _ (⟨#[122]⟩ : ByteArray) [.string (⟨#[122]⟩ : ByteArray)] from rfl) (Reps.one (show Kd.M Kd.string _ _ _ (⟨#[]⟩ : ByteArray) [.string (⟨#[]⟩ : ByteArray)] from rfl) (Reps.none _ _))))); intro v290 w16 ho17 hb hg_ hnew_; clear hg_ hnew_; (first | rw [← Ny289.out] at ho17 | (simp only [Int.reduceToNat] at ho17; rw [← Ny289.out] at ho17)); have n0_ := Aside0.mk (Kd.Q_below u14_ hb); have n1_ := Aside0.mk (Kd.R_below u23_ hb); have n2_ := Aside0.mk (Kd.R_lower ho17 (keep_size (w := w) (g := g) (row := none) u2_)); have n3_ := Aside0.mk (IsS99.below u6_ hb); have n4_ := Aside0.mk (KeepBut.trans u2_ (KeepBut.of_below hb g none) (.inl rfl)); have n5_ := Aside0.mk (below_step u5_ hb); clear HO282; clear HO286; clear HI0; clear HK; clear HB; have HO282 := n0_; have HO286 := n1_; have HO291 := n2_; have HI0 := n3_; have HK := n4_; have HB := n5_; clear n0_ n1_ n2_ n3_ n4_ n5_; clear hb ho17; obtain ⟨Ao18, co18, eo18⟩ := Kd.R_slice HO291.out; subst eo18) | ((with_reducible refine gate_callee (f := 84) rfl ?_); refine goesL_ (some 15) rfl rfl Tryd.func84 u20_ rfl #[.pointer (some ⟨g, 0, none⟩), .slice Ao18 y289.length co18] rfl u1_ ?_; (with_reducible refine (spec_l1Rd_of.calls k g s0_0 t288 _ _ y289 t292 t293 w0 _ ?side1 ?side2 ?side3 ?side4 ?side5 A6.out).mono ?_); (case side1 => repeat (first | (with_reducible first | exact HI0.out | apply IsS99.alloc | apply IsS99.drewN | apply IsS99.drew | apply IsS99.set_1) | exact HI0.out)); (case side2 => repeat (first | (with_reducible first | exact HB.out | apply below_alloc | apply pw_below_drewN | apply below_drew1 | refine below_set ?_ (IsS99.ge HI0.out)) | exact HB.out)); (case side3 => repeat (first | exact (Kd.R_reads' HO291.out).2.2 | (with_reducible refine Kd.C_alloc ?_ _) | (with_reducible refine Kd.C_drewN ?_ _) | (with_reducible refine Kd.C_drew ?_))); (case side4 => exact (Kd.R_reads' HO291.out).2.1); (case side5 => exact far_slice (IsS99.own_ne HI0.out HO291.out u31_)); rintro e w19 ⟨rfl, hi, hb, hk⟩; refine ⟨_, rfl, ?_⟩; have n0_ := Aside0.mk (Kd.Q_mono (Kd.Q_keep (IsS99.apartQ (show IsS99 w0 _ g s0_0 t288 from by repeat (first | (with_reducible first | exact HI0.out | apply IsS99.alloc | apply IsS99.drewN | apply IsS99.drew | apply IsS99.set_1) | exact HI0.out)) u14_ u31_) hk (fun _ h => h.2)) (fun _ h => h.1)); have n1_ := Aside0.mk (Kd.R_mono (Kd.R_keep (IsS99.apart (show IsS99 w0 _ g s0_0 t288 from by repeat (first | (with_reducible first | exact HI0.out | apply IsS99.alloc | apply IsS99.drewN | apply IsS99.drew | apply IsS99.set_1) | exact HI0.out)) u23_ u31_) hk (fun _ h => h.2)) (fun _ h => h.1)); have n2_ := Aside0.mk (Kd.R_mono (Kd.R_keep (IsS99.apart (show IsS99 w0 _ g s0_0 t288 from by repeat (first | (with_reducible first | exact HI0.out | apply IsS99.alloc | apply IsS99.drewN | apply IsS99.drew | apply IsS99.set_1) | exact HI0.out)) u61_ u31_) hk (fun _ h => h.2)) (fun _ h => h.1)); have n3_ := Aside0.mk (KeepBut.trans u2_ hk (.inl rfl)); have n4_ := Aside0.mk (hb); have n5_ := Aside0.mk (hi); clear HO282; clear HO286; clear HO291; clear HK; clear HB; clear HI0; have HO282 := n0_; have HO286 := n1_; have HO291 := n2_; have HK := n3_; have HB := n4_; have HI0 := n5_; clear n0_ n1_ n2_ n3_ n4_ n5_; (try clear hb); (try clear hb2); (try clear hk); (try clear hi)) | ((with_reducible refine gate_callee (f := 78) rfl ?_); refine goesL_ (some 17) rfl rfl Tryd.func78 u20_ rfl #[.pointer (some ⟨g, 0, none⟩), .int .i64 5] rfl u1_ ?_; (with_reducible refine (spec_l1Rd_pick.calls k g s0_0 t293 5 t294 t295 w0 _ ?side1 ?side2 A7.out).mono ?_); (case side1 => repeat (first | (with_reducible first | exact HI0.out | apply IsS99.alloc | apply IsS99.drewN | apply IsS99.drew | apply IsS99.set_1) | exact HI0.out)); (case side2 => repeat (first | (with_reducible first | exact HB.out | apply below_alloc | apply pw_below_drewN | apply below_drew1 | refine below_set ?_ (IsS99.ge HI0.out)) | exact HB.out)); rintro e w20 ⟨rfl, hi, hb, hk⟩; refine ⟨_, rfl, ?_⟩; have n0_ := Aside0.mk (Kd.Q_mono (Kd.Q_keep (IsS99.apartQ (show IsS99 w0 _ g s0_0 t293 from by repeat (first | (with_reducible first | exact HI0.out | apply IsS99.alloc | apply IsS99.drewN | apply IsS99.drew | apply IsS99.set_1) | exact HI0.out)) u14_ u31_) hk (fun _ h => h.2)) (fun _ h => h.1)); have n1_ := Aside0.mk (Kd.R_mono (Kd.R_keep (IsS99.apart (show IsS99 w0 _ g s0_0 t293 from by repeat (first | (with_reducible first | exact HI0.out | apply IsS99.alloc | apply IsS99.drewN | apply IsS99.drew | apply IsS99.set_1) | exact HI0.out)) u23_ u31_) hk (fun _ h => h.2)) (fun _ h => h.1)); have n2_ := Aside0.mk (Kd.R_mono (Kd.R_keep (IsS99.apart (show IsS99 w0 _ g s0_0 t293 from by repeat (first | (with_reducible first | exact HI0.out | apply IsS99.alloc | apply IsS99.drewN | apply IsS99.drew | apply IsS99.set_1) | exact HI0.out)) u61_ u31_) hk (fun _ h => h.2)) (fun _ h => h.1)); have n3_ := Aside0.mk (KeepBut.trans u2_ hk (.inl rfl)); have n4_ := Aside0.mk (hb); have n5_ := Aside0.mk (hi); clear HO282; clear HO286; clear HO291; clear HK; clear HB; clear HI0; have HO282 := n0_; have HO286 := n1_; have HO291 := n2_; have HK := n3_; have HB := n4_; have HI0 := n5_; clear n0_ n1_ n2_ n3_ n4_ n5_; (try clear hb); (try clear hb2); (try clear hk); (try clear hi)) | ((with_reducible refine gate_callee (f := 78) rfl ?_); refine goesL_ (some 19) rfl rfl Tryd.func78 u20_ rfl #[.pointer (some ⟨g, 0, none⟩), .int .i64 11] rfl u1_ ?_; (with_reducible refine (spec_l1Rd_pick.calls k g s0_0 t295 11 t296 t297 w0 _ ?side1 ?side2 A8.out).mono ?_); (case side1 => repeat (first | (with_reducible first | exact HI0.out | apply IsS99.alloc | apply IsS99.drewN | apply IsS99.drew | apply IsS99.set_1) | exact HI0.out)); (case side2 => repeat (first | (with_reducible first | exact HB.out | apply below_alloc | apply pw_below_drewN | apply below_drew1 | refine below_set ?_ (IsS99.ge HI0.out)) | exact HB.out)); rintro e w21 ⟨rfl, hi, hb, hk⟩; refine ⟨_, rfl, ?_⟩; have n0_ := Aside0.mk (Kd.Q_mono (Kd.Q_keep (IsS99.apartQ (show IsS99 w0 _ g s0_0 t295 from by repeat (first | (with_reducible first | exact HI0.out | apply IsS99.alloc | apply IsS99.drewN | apply IsS99.drew | apply IsS99.set_1) | exact HI0.out)) u14_ u31_) hk (fun _ h => h.2)) (fun _ h => h.1)); have n1_ := Aside0.mk (Kd.R_mono (Kd.R_keep (IsS99.apart (show IsS99 w0 _ g s0_0 t295 from by repeat (first | (with_reducible first | exact HI0.out | apply IsS99.alloc | apply IsS99.drewN | apply IsS99.drew | apply IsS99.set_1) | exact HI0.out)) u23_ u31_) hk (fun _ h => h.2)) (fun _ h => h.1)); have n2_ := Aside0.mk (Kd.R_mono (Kd.R_keep (IsS99.apart (show IsS99 w0 _ g s0_0 t295 from by repeat (first | (with_reducible first | exact HI0.out | apply IsS99.alloc | apply IsS99.drewN | apply IsS99.drew | apply IsS99.set_1) | exact HI0.out)) u61_ u31_) hk (fun _ h => h.2)) (fun _ h => h.1)); have n3_ := Aside0.mk (KeepBut.trans u2_ hk (.inl rfl)); have n4_ := Aside0.mk (hb); have n5_ := Aside0.mk (hi); clear HO282; clear HO286; clear HO291; clear HK; clear HB; clear HI0; have HO282 := n0_; have HO286 := n1_; have HO291 := n2_; have HK := n3_; have HB := n4_; have HI0 := n5_; clear n0_ n1_ n2_ n3_ n4_ n5_; (try clear hb); (try clear hb2); (try clear hk); (try clear hi)) | ((with_reducible refine gate_builtin (b := .append) (xs := #[.tmp 12, .tmp 21]) rfl ?_); at_builtin; refine Kd.R_append k75 w.heap.size rfl (.tmp 12) (.tmp 21) 34 75 (.agg #[(.string ⟨#[]⟩), (.int .i64 0), (.int .i64 0)]) 32 rfl Tryd.underlying34 info75 rfl u31_ u44_ v285 y284 (⟨t292, t294, t296⟩ : S75) [.string t292, .int .i64 t294, .int .i64 t296] (fun k_ => some k_ ≠ (.slice Ao14 t280.length co14 : Value).ownBlock) (fun _ => False) rfl rfl ?aP (fun _ hk => hk.elim) ?aF ?aO (Below.refl _ _) ?aS ?aL ?_; (case aP => exact k75_mkM _ _ _ (⟨t292, t294, t296⟩ : S75)); (case aF => exact (fun k_ hk => Kd.fresh' (Kd.Q_lt u14_) k_ hk)); (case aO => exact u23_); (case aS => exact (keep_size (w := w) (g := g) (row := none) u2_)); (case aL => have := LMc9.out; omega); intro v299 w22 ho hb hg hat; rw [← Ny298.out] at ho; have n0_ := Aside0.mk (IsS99.grown u6_ hg (IsS99.own_ne HI0.out HO286.out u31_)); have n1_ := Aside0.mk (Kd.Q_after (ok := (fun _ => True)) u14_ hg hat); have n2_ := Aside0.mk (Kd.R_over' u61_ (Kd.R_typed u23_) u31_ hg); have n3_ := Aside0.mk (below_weaken u5_ HL.out hb); have n4_ := Aside0.mk (KeepBut.trans u2_ (KeepBut.of_grown hg g) (Kd.R_base2 HO286.out)); have n5_ := Aside0.mk (ho); clear HI0; clear HO282; clear HO291; clear HB; clear HK; clear HO286; have HI0 := n0_; have HO282 := n1_; have HO291 := n2_; have HB := n3_; have HK := n4_; have HO300 := n5_; clear n0_ n1_ n2_ n3_ n4_ n5_; clear ho hb hg hat))
    go_ret
    exact ⟨_, u4_, by (with_reducible repeat (first | apply Kd.R_alloc | apply Kd.R_drewN | apply Kd.R_drew)); exact Kd.R_mono HO300.out (fun _ hk => trivial), u6_, u5_, u2_⟩
   ·rw [if_neg c9] at H
    exact absurd H u43_
  ·rw [if_neg c5] at H
   have c5b0 : (t287 == 0) = false := beq_eq_false_iff_ne.mpr c5
   have c5b1 : (t287 != 0) = true := bne_iff_ne.mpr c5
   by_cases c23 : t287 = 1
   ·rw [if_pos c23] at H
    have c23b0 : (t287 == 1) = true := beq_iff_eq.mpr c23
    have c23b1 : (t287 != 1) = false := bne_eq_false_iff_eq.mpr c23
    clear c23
    obtain ⟨y301, hy301⟩ : ∃ y_ : List Int, y_ = (([0, 9, 10] : List Int)) := ⟨_, rfl⟩
    replace H : ((spec_l1Rd_one.f k s0_0 t288 y301).bind fun bt304 => (if 0 < (y284.length : Int) then (some ((y284.set (0 : Int).toNat (⟨(rd_T75 y284 0).f0, (rd_T75 y284 0).f1, bt304.1⟩ : S75)), bt304.2)) else (none))) = some (r1, r2) := by first | (rw [hy301]; with_reducible exact H) | (have H2_ := (Option.bind_some _ _).symm.trans H; rw [hy301]; with_reducible exact H2_) | (have H2_ := (Option.bind_some _ _).symm.trans H; with_reducible exact H2_) | with_reducible exact H | (rw [hy301]; exact H) | exact H
    have Ny301 := Aside0.mk hy301
    clear hy301
    replace H := Option.bind_eq_some_iff.mp H
    obtain ⟨⟨t304, t305⟩, A240, H⟩ := H
    replace H : (if 0 < (y284.length : Int) then (some ((y284.set (0 : Int).toNat (⟨(rd_T75 y284 0).f0, (rd_T75 y284 0).f1, t304⟩ : S75)), t305)) else (none)) = some (r1, r2) := H
    have A24 := Aside0.mk A240
    clear A240
    by_cases c25 : 0 < (y284.length : Int)
    ·rw [if_pos c25] at H
     have c25b0 : decide (0 < (y284.length : Int)) = true := decide_eq_true c25
     have c25b1 : decide (0 < y284.length) = true := decide_eq_true u44_
     clear c25
     obtain ⟨y306, hy306⟩ : ∃ y_ : List (S75), y_ = (y284.set (0 : Int).toNat (⟨(rd_T75 y284 0).f0, (rd_T75 y284 0).f1, t304⟩ : S75)) := ⟨_, rfl⟩
     replace H : (some (y306, t305)) = some (r1, r2) := by first | (rw [hy306]; with_reducible exact H) | (have H2_ := (Option.bind_some _ _).symm.trans H; rw [hy306]; with_reducible exact H2_) | (have H2_ := (Option.bind_some _ _).symm.trans H; with_reducible exact H2_) | with_reducible exact H | (rw [hy306]; exact H) | exact H
     have Ny306 := Aside0.mk hy306
     clear hy306
     simp only [Option.some.injEq, Prod.mk.injEq] at H
     obtain ⟨rfl, rfl⟩ := H
     go_enter Tryd.func58, Tryd.ntmps58
     go_wp2_with (first | ((with_reducible refine gate_dst (N := 4) rfl ?_); refine Kd.R_lit k75 _ 75 ?hg (N := 4) ?hd (xs := ([] : List (S75))) (inner := []) (ok := fun _ => True) (okp := fun _ => True) ?hr ?hp (fun _ hk => hk) trivial (Below.refl _ _) (Nat.le_refl _) u43_ ?_; (case hd => rfl); (case hg => rfl); (case hr => first | (go_simp; done) | (go_simp; rfl)); (case hp => exact (Reps.none _ _)); intro v278 w27 ho28 hb hg_ hnew_; clear hg_ hnew_; (first | rw [← Ny277.out] at ho28 | (simp only [Int.reduceToNat] at ho28; rw [← Ny277.out] at ho28)); have n0_ := Aside0.mk (Kd.R_lower ho28 (keep_size (w := w) (g := g) (row := none) u2_)); have n1_ := Aside0.mk (IsS99.below u6_ hb); have n2_ := Aside0.mk (KeepBut.trans u2_ (KeepBut.of_below hb g none) (.inl rfl)); have n3_ := Aside0.mk (below_step u5_ hb); clear HI0; clear HK; clear HB; have HO279 := n0_; have HI0 := n1_; have HK := n2_; have HB := n3_; clear n0_ n1_ n2_ n3_; clear hb ho28) | ((with_reducible refine gate_callee (f := 70) rfl ?_); refine goesL_ (some 6) rfl rfl Tryd.func70 u20_ rfl #[.pointer (some ⟨g, 0, none⟩)] rfl u1_ ?_; (with_reducible refine (spec_l11Fields.calls k g s0_0 s0_1 t280 t283 w0 _ ?side1 ?side2 A2.out).mono ?_); (case side1 => repeat (first | (with_reducible first | exact HI0.out | apply IsS99.alloc | apply IsS99.drewN | apply IsS99.drew | apply IsS99.set_1) | exact HI0.out)); (case side2 => repeat (first | (with_reducible first | exact HB.out | apply below_alloc | apply pw_below_drewN | apply below_drew1 | refine below_set ?_ (IsS99.ge HI0.out)) | exact HB.out)); rintro e w29 ⟨v281, rfl, ho0, hi, hb, hk⟩; refine ⟨_, rfl, ?_⟩; have n0_ := Aside0.mk (Kd.R_mono (Kd.R_told (Kd.R_oldK (IsS99.apart (show IsS99 w0 _ g s0_0 s0_1 from by repeat (first | (with_reducible first | exact HI0.out | apply IsS99.alloc | apply IsS99.drewN | apply IsS99.drew | apply IsS99.set_1) | exact HI0.out)) u34_ u31_) hk) (Kd.Q_base ho0)) (fun _ h_ => h_.1)); have n1_ := Aside0.mk (Kd.Q_lower (Kd.Q_new' ho0 (Kd.R_lt u34_)) (keep_size (w := w) (g := g) (row := none) u2_)); have n2_ := Aside0.mk (KeepBut.trans u2_ hk (.inl rfl)); have n3_ := Aside0.mk (hb); have n4_ := Aside0.mk (hi); clear HO279; clear HK; clear HB; clear HI0; have HO279 := n0_; have HO282 := n1_; have HK := n2_; have HB := n3_; have HI0 := n4_; clear n0_ n1_ n2_ n3_ n4_; (try clear hb); (try clear hb2); (try clear hk); (try clear hi); (try clear ho0); obtain ⟨Ao31, co31, eo31, _⟩ := Kd.Q_slice HO282.out; subst eo31) | ((with_reducible refine gate_builtin (b := .append) (xs := #[.tmp 4, .tmp 6]) rfl ?_); at_builtin; refine Kd.R_append_rows k75 w.heap.size rfl (.tmp 4) (.tmp 6) 34 75 (.agg #[(.string ⟨#[]⟩), (.int .i64 0), (.int .i64 0)]) 32 rfl Tryd.underlying34 info75 rfl u31_ u44_ v278 y277 t280 _ _ _ (fun k_ => some k_ ≠ (.slice Ao31 t280.length co31 : Value).ownBlock) (fun _ => False) rfl rfl ?aO ?aR (fun _ _ h => h) (fun _ h => h.elim) ?aF (Below.refl _ _) ?aS ?aL ?_; (case aR => repeat (first | exact (Kd.Q_reads' HO282.out).2.2 | (with_reducible refine Kd.C_alloc ?_ _) | (with_reducible refine Kd.C_drewN ?_ _) | (with_reducible refine Kd.C_drew ?_))); (case aF => exact (fun k_ hk => Kd.fresh' (Kd.Q_lt u14_) k_ hk)); (case aO => exact u53_); (case aS => exact (keep_size (w := w) (g := g) (row := none) u2_)); (case aL => have := LMc3.out; omega); intro v285 w30 ho hb hg hat; rw [← Ny284.out] at ho; have n0_ := Aside0.mk (IsS99.grown u6_ hg (IsS99.own_ne HI0.out HO279.out u31_)); have n1_ := Aside0.mk (Kd.Q_after (ok := (fun _ => True)) u14_ hg hat); have n2_ := Aside0.mk (below_weaken u5_ HL.out hb); have n3_ := Aside0.mk (KeepBut.trans u2_ (KeepBut.of_grown hg g) (Kd.R_base2 HO279.out)); have n4_ := Aside0.mk (ho); clear HI0; clear HO282; clear HB; clear HK; clear HO279; have HI0 := n0_; have HO282 := n1_; have HB := n2_; have HK := n3_; have HO286 := n4_; clear n0_ n1_ n2_ n3_ n4_; clear ho hb hg hat) | ((with_reducible refine gate_callee (f := 78) rfl ?_); refine goesL_ (some 9) rfl rfl Tryd.func78 u20_ rfl #[.pointer (some ⟨g, 0, none⟩), .int .i64 12] rfl u1_ ?_; (with_reducible refine (spec_l1Rd_pick.calls k g s0_0 t283 12 t287 t288 w0 _ ?side1 ?side2 A4.out).mono ?_); (case side1 => repeat (first | (with_reducible first | exact HI0.out | apply IsS99.alloc | apply IsS99.drewN | apply IsS99.drew | apply IsS99.set_1) | exact HI0.out)); (case side2 => repeat (first | (with_reducible first | exact HB.out | apply below_alloc | apply pw_below_drewN | apply below_drew1 | refine below_set ?_ (IsS99.ge HI0.out)) | exact HB.out)); rintro e w32 ⟨rfl, hi, hb, hk⟩; refine ⟨_, rfl, ?_⟩; have n0_ := Aside0.mk (Kd.Q_mono (Kd.Q_keep (IsS99.apartQ (show IsS99 w0 _ g s0_0 t283 from by repeat (first | (with_reducible first | exact HI0.out | apply IsS99.alloc | apply IsS99.drewN | apply IsS99.drew | apply IsS99.set_1) | exact HI0.out)) u14_ u31_) hk (fun _ h => h.2)) (fun _ h => h.1)); have n1_ := Aside0.mk (Kd.R_mono (Kd.R_keep (IsS99.apart (show IsS99 w0 _ g s0_0 t283 from by repeat (first | (with_reducible first | exact HI0.out | apply IsS99.alloc | apply IsS99.drewN | apply IsS99.drew | apply IsS99.set_1) | exact HI0.out)) u23_ u31_) hk (fun _ h => h.2)) (fun _ h => h.1)); have n2_ := Aside0.mk (KeepBut.trans u2_ hk (.inl rfl)); have n3_ := Aside0.mk (hb); have n4_ := Aside0.mk (hi); clear HO282; clear HO286; clear HK; clear HB; clear HI0; have HO282 := n0_; have HO286 := n1_; have HK := n2_; have HB := n3_; have HI0 := n4_; clear n0_ n1_ n2_ n3_ n4_; (try clear hb); (try clear hb2); (try clear hk); (try clear hi)) | ((with_reducible refine gate_dst (N := 27) rfl ?_); refine Kd.R_lit (Kd.int .i64) _ 3 ?hg (N := 27) ?hd (xs := ([0, 9, 10] : List Int)) (inner := [.int .i64 0, .int .i64 9, .int .i64 10]) (ok := fun _ => True) (okp := fun _ => True) ?hr ?hp (fun _ hk => hk) trivial (Below.refl _ _) (Nat.le_refl _) u43_ ?_; (case hd => rfl); (case hg => rfl); (case hr => first | (go_simp; done) | (go_simp; rfl)); (case hp => exact (Reps.one (show Kd.M (Kd.int .i64) _ _ _ 0 [.int .i64 0] from rfl) (Reps.one (show Kd.M (Kd.int .i64) _ _ _ 9 [.int .i64 9] from rfl) (Reps.one (show Kd.M (Kd.int .i64) _ _ _ 10 [.int .i64 10] from rfl) (Reps.none _ _))))); intro v302 w33 ho34 hb hg_ hnew_; clear hg_ hnew_; (first | rw [← Ny301.out] at ho34 | (simp only [Int.reduceToNat] at ho34; rw [← Ny301.out] at ho34)); have n0_ := Aside0.mk (Kd.Q_below u14_ hb); have n1_ := Aside0.mk (Kd.R_below u23_ hb); have n2_ := Aside0.mk (Kd.R_lower ho34 (keep_size (w := w) (g := g) (row := none) u2_)); have n3_ := Aside0.mk (IsS99.below u6_ hb); have n4_ := Aside0.mk (KeepBut.trans u2_ (KeepBut.of_below hb g none) (.inl rfl)); have n5_ := Aside0.mk (below_step u5_ hb); clear HO282; clear HO286; clear HI0; clear HK; clear HB; have HO282 := n0_; have HO286 := n1_; have HO303 := n2_; have HI0 := n3_; have HK := n4_; have HB := n5_; clear n0_ n1_ n2_ n3_ n4_ n5_; clear hb ho34; obtain ⟨Ao35, co35, eo35⟩ := Kd.R_slice HO303.out; subst eo35) | ((with_reducible refine gate_callee (f := 79) rfl ?_); refine goesL_ (some 28) rfl rfl Tryd.func79 u20_ rfl #[.pointer (some ⟨g, 0, none⟩), .slice Ao35 y301.length co35] rfl u1_ ?_; (with_reducible refine (spec_l1Rd_one.calls k g s0_0 t288 _ _ y301 t304 t305 w0 _ ?side1 ?side2 ?side3 ?side4 ?side5 A24.out).mono ?_); (case side1 => repeat (first | (with_reducible first | exact HI0.out | apply IsS99.alloc | apply IsS99.drewN | apply IsS99.drew | apply IsS99.set_1) | exact HI0.out)); (case side2 => repeat (first | (with_reducible first | exact HB.out | apply below_alloc | apply pw_below_drewN | apply below_drew1 | refine below_set ?_ (IsS99.ge HI0.out)) | exact HB.out)); (case side3 => repeat (first | exact (Kd.R_reads' HO303.out).2.2 | (with_reducible refine Kd.C_alloc ?_ _) | (with_reducible refine Kd.C_drewN ?_ _) | (with_reducible refine Kd.C_drew ?_))); (case side4 => exact (Kd.R_reads' HO303.out).2.1); (case side5 => exact far_slice (IsS99.own_ne HI0.out HO303.out u31_)); rintro e w36 ⟨rfl, hi, hb, hk⟩; refine ⟨_, rfl, ?_⟩; have n0_ := Aside0.mk (Kd.Q_mono (Kd.Q_keep (IsS99.apartQ (show IsS99 w0 _ g s0_0 t288 from by repeat (first | (with_reducible first | exact HI0.out | apply IsS99.alloc | apply IsS99.drewN | apply IsS99.drew | apply IsS99.set_1) | exact HI0.out)) u14_ u31_) hk (fun _ h => h.2)) (fun _ h => h.1)); have n1_ := Aside0.mk (Kd.R_mono (Kd.R_keep (IsS99.apart (show IsS99 w0 _ g s0_0 t288 from by repeat (first | (with_reducible first | exact HI0.out | apply IsS99.alloc | apply IsS99.drewN | apply IsS99.drew | apply IsS99.set_1) | exact HI0.out)) u23_ u31_) hk (fun _ h => h.2)) (fun _ h => h.1)); have n2_ := Aside0.mk (Kd.R_mono (Kd.R_keep (IsS99.apart (show IsS99 w0 _ g s0_0 t288 from by repeat (first | (with_reducible first | exact HI0.out | apply IsS99.alloc | apply IsS99.drewN | apply IsS99.drew | apply IsS99.set_1) | exact HI0.out)) (by (with_reducible repeat (first | apply Kd.R_alloc | apply Kd.R_drewN | apply Kd.R_drew)); exact HO303.out) u31_) hk (fun _ h => h.2)) (fun _ h => h.1)); have n3_ := Aside0.mk (KeepBut.trans u2_ hk (.inl rfl)); have n4_ := Aside0.mk (hb); have n5_ := Aside0.mk (hi); clear HO282; clear HO286; clear HO303; clear HK; clear HB; clear HI0; have HO282 := n0_; have HO286 := n1_; have HO303 := n2_; have HK := n3_; have HB := n4_; have HI0 := n5_; clear n0_ n1_ n2_ n3_ n4_ n5_; (try clear hb); (try clear hb2); (try clear hk); (try clear hi); have p26 : 0 ≤ (0 : Int) := u44_; have q26 : (0 : Int) < ((y284.length : Int) : Int) := of_decide_eq_true u3_; have qi26 : (0 < y284.length) = True := eq_true u44_; obtain ⟨go26, co26, eo26, gb26, gl26, cl26, HG26⟩ := Kd.R_form HO286.out u44_; (first | cases eo26 | (injection eo26 with ea_ en_ ec_; (first | subst ea_ | (injection ea_ with ea_; subst ea_)); subst ec_; clear en_)); have GB26 := Aside0.mk gb26; have GG26 := Aside0.mk HG26; clear gb26 gl26 HG26; obtain ⟨ce26, hcl26, hM26, hcc26, hfr26⟩ := Kd.R_elem HO286.out z75 (0 : Int) p26 q26; obtain rfl := k75_openM hM26; have hx26_0 : w36.cell? ⟨go26, (0 : Int).toNat * 3, none⟩ = some (.string ((rd_T75 y284 0).f0)) := hcc26 0 _ rfl; have hx26_1 : w36.cell? ⟨go26, (0 : Int).toNat * 3 + 1, none⟩ = some (.int .i64 ((rd_T75 y284 0).f1)) := hcc26 1 _ rfl; have hx26_2 : w36.cell? ⟨go26, (0 : Int).toNat * 3 + 2, none⟩ = some (.int .i64 ((rd_T75 y284 0).f2)) := hcc26 2 _ rfl; have hf26_0 : w36.frozen? ⟨go26, (0 : Int).toNat * 3, none⟩ = false := hfr26 0; have hf26_1 : w36.frozen? ⟨go26, (0 : Int).toNat * 3 + 1, none⟩ = false := hfr26 1; have hf26_2 : w36.frozen? ⟨go26, (0 : Int).toNat * 3 + 2, none⟩ = false := hfr26 2; clear hcl26 hcc26 hfr26 hM26; (try rw [show ((0 : Int)).toNat = 0 from rfl] at hx26_0); (try simp only [Nat.reduceMul, Nat.zero_mul, Nat.zero_add, Nat.reduceAdd] at hx26_0); (try rw [show ((0 : Int)).toNat = 0 from rfl] at hf26_0); (try simp only [Nat.reduceMul, Nat.zero_mul, Nat.zero_add, Nat.reduceAdd] at hf26_0); (try rw [show ((0 : Int)).toNat = 0 from rfl] at hx26_1); (try simp only [Nat.reduceMul, Nat.zero_mul, Nat.zero_add, Nat.reduceAdd] at hx26_1); (try rw [show ((0 : Int)).toNat = 0 from rfl] at hf26_1); (try simp only [Nat.reduceMul, Nat.zero_mul, Nat.zero_add, Nat.reduceAdd] at hf26_1); (try rw [show ((0 : Int)).toNat = 0 from rfl] at hx26_2); (try simp only [Nat.reduceMul, Nat.zero_mul, Nat.zero_add, Nat.reduceAdd] at hx26_2); (try rw [show ((0 : Int)).toNat = 0 from rfl] at hf26_2); (try simp only [Nat.reduceMul, Nat.zero_mul, Nat.zero_add, Nat.reduceAdd] at hf26_2); replace p26 := eq_true p26; replace q26 := eq_true q26; have HX37 := Aside0.mk (show Kd.R k75 75 w36 w.heap.size (fun k_ => some k_ ≠ (.slice Ao31 t280.length co31 : Value).ownBlock) (.slice (some ⟨go26, 0, none⟩) y284.length co26) y284 from u23_); obtain ⟨ce37, hcl37, hM37, hcc37, hfr37⟩ := Kd.R_elem HX37.out z75 (0 : Int) u44_ (by have h_ : (0 : Int) < ((y284.length : Int) : Int) := of_decide_eq_true u3_; first | exact h_ | (have e_ := (Kd.R_reads' HO286.out).1; omega) | simpa using h_); obtain rfl := k75_openM hM37; have HP37 := Kd.R_seg HX37.out (0 : Int) u44_ (by have h_ : (0 : Int) < ((y284.length : Int) : Int) := of_decide_eq_true u3_; first | exact h_ | (have e_ := (Kd.R_reads' HO286.out).1; omega) | simpa using h_) (seg := [.int .i64 t304]) (j := 2) hcl37 hcc37 (show 3 ≤ 3 from by decide) (x' := (⟨(rd_T75 y284 0).f0, (rd_T75 y284 0).f1, t304⟩ : S75)) (k75_mkM _ _ _ (⟨(rd_T75 y284 0).f0, (rd_T75 y284 0).f1, t304⟩ : S75) ) (fun _ hk => hk); have hx37_2 := hcc37 2 _ rfl; (try simp only [show (k75).sz = 3 from rfl, Nat.mul_one, Nat.add_zero] at hx37_2); (try rw [show ((0 : Int)).toNat = 0 from rfl] at hx37_2); (try simp only [Nat.reduceMul, Nat.zero_mul, Nat.zero_add, Nat.reduceAdd] at hx37_2); have hf37_2 := hfr37 2; (try simp only [show (k75).sz = 3 from rfl, Nat.mul_one, Nat.add_zero] at hf37_2); (try rw [show ((0 : Int)).toNat = 0 from rfl] at hf37_2); (try simp only [Nat.reduceMul, Nat.zero_mul, Nat.zero_add, Nat.reduceAdd] at hf37_2); clear hcl37 hcc37 hfr37 hM37) | ((with_reducible refine gate_store (t := 3) (p := 30) rfl ?_); refine store_event (t := 3) (p := 30) (v := ?vo_w38) (w1 := (w36.setCell ⟨go26, 2, none⟩ (.int .i64 t304))) ?hg ?ho ?hn ?hr ?_; (case ho => rfl); (case hg => rfl); (case hn => rfl); (case hr => first | (go_simp; done) | (go_simp; rfl)); intro w38 hw; have hg : w36.grownBy w38 (some go26) := (by rw [hw]; exact HP37.2); have hp_ : Kd.R k75 75 w38 w.heap.size (fun k_ => some k_ ≠ (.slice Ao31 t280.length co31 : Value).ownBlock) (.slice (some ⟨go26, 0, none⟩) y284.length co26) y306 := (by rw [hw, Ny306.out]; exact HP37.1); clear HP37; have n0_ := Aside0.mk (IsS99.grown u6_ hg (IsS99.own_ne HI0.out HO286.out u31_)); have n1_ := Aside0.mk (Kd.Q_after (v := (.slice (some ⟨go26, 0, none⟩) y284.length co26)) (v1 := (.slice (some ⟨go26, 0, none⟩) y284.length co26)) (ok := (fun _ => True)) u14_ hg (.inl rfl)); have n2_ := Aside0.mk (hp_); have n3_ := Aside0.mk (Kd.R_over' (v := (.slice (some ⟨go26, 0, none⟩) y284.length co26)) (by (with_reducible repeat (first | apply Kd.R_alloc | apply Kd.R_drewN | apply Kd.R_drew)); exact HO303.out) (Kd.R_typed HO286.out) u31_ hg); have n4_ := Aside0.mk ((by rw [hw]; exact below_set (HB.out) (Nat.le_trans HL.out GB26.out) : Below w0.heap.size w0 w38)); have n5_ := Aside0.mk (KeepBut.trans u2_ (KeepBut.of_grown hg g) (Kd.R_base2 HO286.out)); clear HI0; clear HO282; clear HO286; clear HO303; clear HB; clear HK; have HI0 := n0_; have HO282 := n1_; have HO286 := n2_; have HO303 := n3_; have HB := n4_; have HK := n5_; clear n0_ n1_ n2_ n3_ n4_ n5_; clear hg hw hp_))
     go_ret
     exact ⟨_, u4_, by (with_reducible repeat (first | apply Kd.R_alloc | apply Kd.R_drewN | apply Kd.R_drew)); exact Kd.R_mono HO286.out (fun _ hk => trivial), u6_, u5_, u2_⟩
    ·rw [if_neg c25] at H
     exact absurd H u43_
   ·rw [if_neg c23] at H
    have c23b0 : (t287 == 1) = false := beq_eq_false_iff_ne.mpr c23
    have c23b1 : (t287 != 1) = true := bne_iff_ne.mpr c23
    by_cases c39 : t287 = 2
    ·rw [if_pos c39] at H
     have c39b0 : (t287 == 2) = true := beq_iff_eq.mpr c39
     have c39b1 : (t287 != 2) = false := bne_eq_false_iff_eq.mpr c39
     clear c39
     simp only [Option.some.injEq, Prod.mk.injEq] at H
     obtain ⟨rfl, rfl⟩ := H
     go_enter Tryd.func58, Tryd.ntmps58
     go_wp2_with (first | ((with_reducible refine gate_dst (N := 4) rfl ?_); refine Kd.R_lit k75 _ 75 ?hg (N := 4) ?hd (xs := ([] : List (S75))) (inner := []) (ok := fun _ => True) (okp := fun _ => True) ?hr ?hp (fun _ hk => hk) trivial (Below.refl _ _) (Nat.le_refl _) u43_ ?_; (case hd => rfl); (case hg => rfl); (case hr => first | (go_simp; done) | (go_simp; rfl)); (case hp => exact (Reps.none _ _)); intro v278 w40 ho41 hb hg_ hnew_; clear hg_ hnew_; (first | rw [← Ny277.out] at ho41 | (simp only [Int.reduceToNat] at ho41; rw [← Ny277.out] at ho41)); have n0_ := Aside0.mk (Kd.R_lower ho41 (keep_size (w := w) (g := g) (row := none) u2_)); have n1_ := Aside0.mk (IsS99.below u6_ hb); have n2_ := Aside0.mk (KeepBut.trans u2_ (KeepBut.of_below hb g none) (.inl rfl)); have n3_ := Aside0.mk (below_step u5_ hb); clear HI0; clear HK; clear HB; have HO279 := n0_; have HI0 := n1_; have HK := n2_; have HB := n3_; clear n0_ n1_ n2_ n3_; clear hb ho41) | ((with_reducible refine gate_callee (f := 70) rfl ?_); refine goesL_ (some 6) rfl rfl Tryd.func70 u20_ rfl #[.pointer (some ⟨g, 0, none⟩)] rfl u1_ ?_; (with_reducible refine (spec_l11Fields.calls k g s0_0 s0_1 t280 t283 w0 _ ?side1 ?side2 A2.out).mono ?_); (case side1 => repeat (first | (with_reducible first | exact HI0.out | apply IsS99.alloc | apply IsS99.drewN | apply IsS99.drew | apply IsS99.set_1) | exact HI0.out)); (case side2 => repeat (first | (with_reducible first | exact HB.out | apply below_alloc | apply pw_below_drewN | apply below_drew1 | refine below_set ?_ (IsS99.ge HI0.out)) | exact HB.out)); rintro e w42 ⟨v281, rfl, ho0, hi, hb, hk⟩; refine ⟨_, rfl, ?_⟩; have n0_ := Aside0.mk (Kd.R_mono (Kd.R_told (Kd.R_oldK (IsS99.apart (show IsS99 w0 _ g s0_0 s0_1 from by repeat (first | (with_reducible first | exact HI0.out | apply IsS99.alloc | apply IsS99.drewN | apply IsS99.drew | apply IsS99.set_1) | exact HI0.out)) u34_ u31_) hk) (Kd.Q_base ho0)) (fun _ h_ => h_.1)); have n1_ := Aside0.mk (Kd.Q_lower (Kd.Q_new' ho0 (Kd.R_lt u34_)) (keep_size (w := w) (g := g) (row := none) u2_)); have n2_ := Aside0.mk (KeepBut.trans u2_ hk (.inl rfl)); have n3_ := Aside0.mk (hb); have n4_ := Aside0.mk (hi); clear HO279; clear HK; clear HB; clear HI0; have HO279 := n0_; have HO282 := n1_; have HK := n2_; have HB := n3_; have HI0 := n4_; clear n0_ n1_ n2_ n3_ n4_; (try clear hb); (try clear hb2); (try clear hk); (try clear hi); (try clear ho0); obtain ⟨Ao44, co44, eo44, _⟩ := Kd.Q_slice HO282.out; subst eo44) | ((with_reducible refine gate_builtin (b := .append) (xs := #[.tmp 4, .tmp 6]) rfl ?_); at_builtin; refine Kd.R_append_rows k75 w.heap.size rfl (.tmp 4) (.tmp 6) 34 75 (.agg #[(.string ⟨#[]⟩), (.int .i64 0), (.int .i64 0)]) 32 rfl Tryd.underlying34 info75 rfl u31_ u44_ v278 y277 t280 _ _ _ (fun k_ => some k_ ≠ (.slice Ao44 t280.length co44 : Value).ownBlock) (fun _ => False) rfl rfl ?aO ?aR (fun _ _ h => h) (fun _ h => h.elim) ?aF (Below.refl _ _) ?aS ?aL ?_; (case aR => repeat (first | exact (Kd.Q_reads' HO282.out).2.2 | (with_reducible refine Kd.C_alloc ?_ _) | (with_reducible refine Kd.C_drewN ?_ _) | (with_reducible refine Kd.C_drew ?_))); (case aF => exact (fun k_ hk => Kd.fresh' (Kd.Q_lt u14_) k_ hk)); (case aO => exact u53_); (case aS => exact (keep_size (w := w) (g := g) (row := none) u2_)); (case aL => have := LMc3.out; omega); intro v285 w43 ho hb hg hat; rw [← Ny284.out] at ho; have n0_ := Aside0.mk (IsS99.grown u6_ hg (IsS99.own_ne HI0.out HO279.out u31_)); have n1_ := Aside0.mk (Kd.Q_after (ok := (fun _ => True)) u14_ hg hat); have n2_ := Aside0.mk (below_weaken u5_ HL.out hb); have n3_ := Aside0.mk (KeepBut.trans u2_ (KeepBut.of_grown hg g) (Kd.R_base2 HO279.out)); have n4_ := Aside0.mk (ho); clear HI0; clear HO282; clear HB; clear HK; clear HO279; have HI0 := n0_; have HO282 := n1_; have HB := n2_; have HK := n3_; have HO286 := n4_; clear n0_ n1_ n2_ n3_ n4_; clear ho hb hg hat) | ((with_reducible refine gate_callee (f := 78) rfl ?_); refine goesL_ (some 9) rfl rfl Tryd.func78 u20_ rfl #[.pointer (some ⟨g, 0, none⟩), .int .i64 12] rfl u1_ ?_; (with_reducible refine (spec_l1Rd_pick.calls k g s0_0 t283 12 t287 t288 w0 _ ?side1 ?side2 A4.out).mono ?_); (case side1 => repeat (first | (with_reducible first | exact HI0.out | apply IsS99.alloc | apply IsS99.drewN | apply IsS99.drew | apply IsS99.set_1) | exact HI0.out)); (case side2 => repeat (first | (with_reducible first | exact HB.out | apply below_alloc | apply pw_below_drewN | apply below_drew1 | refine below_set ?_ (IsS99.ge HI0.out)) | exact HB.out)); rintro e w45 ⟨rfl, hi, hb, hk⟩; refine ⟨_, rfl, ?_⟩; have n0_ := Aside0.mk (Kd.Q_mono (Kd.Q_keep (IsS99.apartQ (show IsS99 w0 _ g s0_0 t283 from by repeat (first | (with_reducible first | exact HI0.out | apply IsS99.alloc | apply IsS99.drewN | apply IsS99.drew | apply IsS99.set_1) | exact HI0.out)) u14_ u31_) hk (fun _ h => h.2)) (fun _ h => h.1)); have n1_ := Aside0.mk (Kd.R_mono (Kd.R_keep (IsS99.apart (show IsS99 w0 _ g s0_0 t283 from by repeat (first | (with_reducible first | exact HI0.out | apply IsS99.alloc | apply IsS99.drewN | apply IsS99.drew | apply IsS99.set_1) | exact HI0.out)) u23_ u31_) hk (fun _ h => h.2)) (fun _ h => h.1)); have n2_ := Aside0.mk (KeepBut.trans u2_ hk (.inl rfl)); have n3_ := Aside0.mk (hb); have n4_ := Aside0.mk (hi); clear HO282; clear HO286; clear HK; clear HB; clear HI0; have HO282 := n0_; have HO286 := n1_; have HK := n2_; have HB := n3_; have HI0 := n4_; clear n0_ n1_ n2_ n3_ n4_; (try clear hb); (try clear hb2); (try clear hk); (try clear hi)))
     go_ret
     exact ⟨_, u4_, by first | exact Kd.R_nil _ _ _ _ _ | exact Kd.N_nil _ _ _ _ _ | exact Kd.V_nil _ _ _ _ _ | exact Kd.Q_nil _ _ _ _ _ | exact Kd.S_nil _ _ _ _ _, u6_, u5_, u2_⟩
    ·rw [if_neg c39] at H
     have c39b0 : (t287 == 2) = false := beq_eq_false_iff_ne.mpr c39
     have c39b1 : (t287 != 2) = true := bne_iff_ne.mpr c39
     simp only [Option.some.injEq, Prod.mk.injEq] at H
     obtain ⟨rfl, rfl⟩ := H
     go_enter Tryd.func58, Tryd.ntmps58
     go_wp2_with (first | ((with_reducible refine gate_dst (N := 4) rfl ?_); refine Kd.R_lit k75 _ 75 ?hg (N := 4) ?hd (xs := ([] : List (S75))) (inner := []) (ok := fun _ => True) (okp := fun _ => True) ?hr ?hp (fun _ hk => hk) trivial (Below.refl _ _) (Nat.le_refl _) u43_ ?_; (case hd => rfl); (case hg => rfl); (case hr => first | (go_simp; done) | (go_simp; rfl)); (case hp => exact (Reps.none _ _)); intro v278 w46 ho47 hb hg_ hnew_; clear hg_ hnew_; (first | rw [← Ny277.out] at ho47 | (simp only [Int.reduceToNat] at ho47; rw [← Ny277.out] at ho47)); have n0_ := Aside0.mk (Kd.R_lower ho47 (keep_size (w := w) (g := g) (row := none) u2_)); have n1_ := Aside0.mk (IsS99.below u6_ hb); have n2_ := Aside0.mk (KeepBut.trans u2_ (KeepBut.of_below hb g none) (.inl rfl)); have n3_ := Aside0.mk (below_step u5_ hb); clear HI0; clear HK; clear HB; have HO279 := n0_; have HI0 := n1_; have HK := n2_; have HB := n3_; clear n0_ n1_ n2_ n3_; clear hb ho47) | ((with_reducible refine gate_callee (f := 70) rfl ?_); refine goesL_ (some 6) rfl rfl Tryd.func70 u20_ rfl #[.pointer (some ⟨g, 0, none⟩)] rfl u1_ ?_; (with_reducible refine (spec_l11Fields.calls k g s0_0 s0_1 t280 t283 w0 _ ?side1 ?side2 A2.out).mono ?_); (case side1 => repeat (first | (with_reducible first | exact HI0.out | apply IsS99.alloc | apply IsS99.drewN | apply IsS99.drew | apply IsS99.set_1) | exact HI0.out)); (case side2 => repeat (first | (with_reducible first | exact HB.out | apply below_alloc | apply pw_below_drewN | apply below_drew1 | refine below_set ?_ (IsS99.ge HI0.out)) | exact HB.out)); rintro e w48 ⟨v281, rfl, ho0, hi, hb, hk⟩; refine ⟨_, rfl, ?_⟩; have n0_ := Aside0.mk (Kd.R_mono (Kd.R_told (Kd.R_oldK (IsS99.apart (show IsS99 w0 _ g s0_0 s0_1 from by repeat (first | (with_reducible first | exact HI0.out | apply IsS99.alloc | apply IsS99.drewN | apply IsS99.drew | apply IsS99.set_1) | exact HI0.out)) u34_ u31_) hk) (Kd.Q_base ho0)) (fun _ h_ => h_.1)); have n1_ := Aside0.mk (Kd.Q_lower (Kd.Q_new' ho0 (Kd.R_lt u34_)) (keep_size (w := w) (g := g) (row := none) u2_)); have n2_ := Aside0.mk (KeepBut.trans u2_ hk (.inl rfl)); have n3_ := Aside0.mk (hb); have n4_ := Aside0.mk (hi); clear HO279; clear HK; clear HB; clear HI0; have HO279 := n0_; have HO282 := n1_; have HK := n2_; have HB := n3_; have HI0 := n4_; clear n0_ n1_ n2_ n3_ n4_; (try clear hb); (try clear hb2); (try clear hk); (try clear hi); (try clear ho0); obtain ⟨Ao50, co50, eo50, _⟩ := Kd.Q_slice HO282.out; subst eo50) | ((with_reducible refine gate_builtin (b := .append) (xs := #[.tmp 4, .tmp 6]) rfl ?_); at_builtin; refine Kd.R_append_rows k75 w.heap.size rfl (.tmp 4) (.tmp 6) 34 75 (.agg #[(.string ⟨#[]⟩), (.int .i64 0), (.int .i64 0)]) 32 rfl Tryd.underlying34 info75 rfl u31_ u44_ v278 y277 t280 _ _ _ (fun k_ => some k_ ≠ (.slice Ao50 t280.length co50 : Value).ownBlock) (fun _ => False) rfl rfl ?aO ?aR (fun _ _ h => h) (fun _ h => h.elim) ?aF (Below.refl _ _) ?aS ?aL ?_; (case aR => repeat (first | exact (Kd.Q_reads' HO282.out).2.2 | (with_reducible refine Kd.C_alloc ?_ _) | (with_reducible refine Kd.C_drewN ?_ _) | (with_reducible refine Kd.C_drew ?_))); (case aF => exact (fun k_ hk => Kd.fresh' (Kd.Q_lt u14_) k_ hk)); (case aO => exact u53_); (case aS => exact (keep_size (w := w) (g := g) (row := none) u2_)); (case aL => have := LMc3.out; omega); intro v285 w49 ho hb hg hat; rw [← Ny284.out] at ho; have n0_ := Aside0.mk (IsS99.grown u6_ hg (IsS99.own_ne HI0.out HO279.out u31_)); have n1_ := Aside0.mk (Kd.Q_after (ok := (fun _ => True)) u14_ hg hat); have n2_ := Aside0.mk (below_weaken u5_ HL.out hb); have n3_ := Aside0.mk (KeepBut.trans u2_ (KeepBut.of_grown hg g) (Kd.R_base2 HO279.out)); have n4_ := Aside0.mk (ho); clear HI0; clear HO282; clear HB; clear HK; clear HO279; have HI0 := n0_; have HO282 := n1_; have HB := n2_; have HK := n3_; have HO286 := n4_; clear n0_ n1_ n2_ n3_ n4_; clear ho hb hg hat) | ((with_reducible refine gate_callee (f := 78) rfl ?_); refine goesL_ (some 9) rfl rfl Tryd.func78 u20_ rfl #[.pointer (some ⟨g, 0, none⟩), .int .i64 12] rfl u1_ ?_; (with_reducible refine (spec_l1Rd_pick.calls k g s0_0 t283 12 t287 t288 w0 _ ?side1 ?side2 A4.out).mono ?_); (case side1 => repeat (first | (with_reducible first | exact HI0.out | apply IsS99.alloc | apply IsS99.drewN | apply IsS99.drew | apply IsS99.set_1) | exact HI0.out)); (case side2 => repeat (first | (with_reducible first | exact HB.out | apply below_alloc | apply pw_below_drewN | apply below_drew1 | refine below_set ?_ (IsS99.ge HI0.out)) | exact HB.out)); rintro e w51 ⟨rfl, hi, hb, hk⟩; refine ⟨_, rfl, ?_⟩; have n0_ := Aside0.mk (Kd.Q_mono (Kd.Q_keep (IsS99.apartQ (show IsS99 w0 _ g s0_0 t283 from by repeat (first | (with_reducible first | exact HI0.out | apply IsS99.alloc | apply IsS99.drewN | apply IsS99.drew | apply IsS99.set_1) | exact HI0.out)) u14_ u31_) hk (fun _ h => h.2)) (fun _ h => h.1)); have n1_ := Aside0.mk (Kd.R_mono (Kd.R_keep (IsS99.apart (show IsS99 w0 _ g s0_0 t283 from by repeat (first | (with_reducible first | exact HI0.out | apply IsS99.alloc | apply IsS99.drewN | apply IsS99.drew | apply IsS99.set_1) | exact HI0.out)) u23_ u31_) hk (fun _ h => h.2)) (fun _ h => h.1)); have n2_ := Aside0.mk (KeepBut.trans u2_ hk (.inl rfl)); have n3_ := Aside0.mk (hb); have n4_ := Aside0.mk (hi); clear HO282; clear HO286; clear HK; clear HB; clear HI0; have HO282 := n0_; have HO286 := n1_; have HK := n2_; have HB := n3_; have HI0 := n4_; clear n0_ n1_ n2_ n3_ n4_; (try clear hb); (try clear hb2); (try clear hk); (try clear hi)))
     go_ret
     exact ⟨_, u4_, by (with_reducible repeat (first | apply Kd.R_alloc | apply Kd.R_drewN | apply Kd.R_drew)); exact Kd.R_mono HO286.out (fun _ hk => trivial), u6_, u5_, u2_⟩
 ·rw [if_neg c3] at H
  exact absurd H u43_

/-! ### spec_DrawFieldsPut: function 29 -/
def spec_DrawFieldsPut.f (k : Nat) (l0 : List Int) : Option ((List (S75))) := (spec_l1Open.f l0).bind fun bt307 => ((spec_l11AnyFields.f k bt307.1 bt307.2).bind fun bt310 => (some bt310.1))
theorem spec_DrawFieldsPut.mono : ∀ a0 k, LeO (spec_DrawFieldsPut.f k a0) (spec_DrawFieldsPut.f (k + 1) a0) := by
 intro a0 k
 unfold spec_DrawFieldsPut.f
 repeat' first
   | (with_reducible exact spec_l11AnyFields.mono _ _ _)
   | (with_reducible exact LeO.refl _)
   | (with_reducible exact LeO.none _)
   | (with_reducible refine LeO.ite ?_ ?_)
   | (with_reducible refine LeO.bind ?_ (fun _ => ?_))
   | exact spec_l11AnyFields.mono _ _ _
   | exact LeO.none _
   | refine LeO.ite ?_ ?_
   | refine LeO.bind ?_ (fun _ => ?_)
set_option maxHeartbeats 8000000 in
set_option maxRecDepth 100000 in
theorem spec_DrawFieldsPut.calls (k : Nat) (A0 : Option Addr) (c0 : Nat) (l0 : List Int) (r : List (S75)) (w : World) (hr0 : Kd.C (Kd.int .u8) w A0 l0.length l0) (hc0 : l0.length ≤ c0) (h : spec_DrawFieldsPut.f k l0 = some r) :
  Calls Tryd.prog 29 #[.slice A0 l0.length c0] w fun e w' => ∃ v0_ : Value, e = .returned (v0_) ∧ Kd.R k75 75 w' w.heap.size (fun _ => True) v0_ r ∧ Below w.heap.size w w' := by
 have HR0 := Aside0.mk hr0
 have HC0 := Aside0.mk hc0
 clear hr0 hc0
 have HB := Aside0.mk (Below.refl w.heap.size w)
 have H : ((spec_l1Open.f l0).bind fun bt307 => ((spec_l11AnyFields.f k bt307.1 bt307.2).bind fun bt310 => (some bt310.1))) = some r := h
 clear h
 replace H := Option.bind_eq_some_iff.mp H
 obtain ⟨⟨t307, t308⟩, A20, H⟩ := H
 replace H : ((spec_l11AnyFields.f k t307 t308).bind fun bt310 => (some bt310.1)) = some r := H
 have A2 := Aside0.mk A20
 clear A20
 replace H := Option.bind_eq_some_iff.mp H
 obtain ⟨⟨t310, t313⟩, A30, H⟩ := H
 replace H : (some t310) = some r := H
 have A3 := Aside0.mk A30
 clear A30
 obtain rfl := Option.some.inj H
 go_enter Tryd.func29, Tryd.ntmps29
 go_wp2_with (first | ((with_reducible refine gate_callee (f := 47) rfl ?_); refine goesL_ (some 4) rfl rfl Tryd.func47 u20_ rfl #[.slice A0 l0.length c0] rfl u1_ ?_; (with_reducible refine (spec_l1Open.calls _ _ l0 t307 t308 w _ ?side1 ?side2 ?side3 A2.out).mono ?_); (case side1 => repeat (first | (with_reducible first | exact HB.out | apply below_alloc | apply pw_below_drewN | apply below_drew1) | exact HB.out)); (case side2 => exact HR0.out); (case side3 => exact HC0.out); rintro e w4 ⟨g309, rfl, hi, hb, hb2⟩; refine ⟨_, rfl, ?_⟩; have n0_ := Aside0.mk (hb); have n1_ := Aside0.mk (hi); clear HB; have HB := n0_; have HI309 := n1_; clear n0_ n1_; (try clear hb); (try clear hb2); (try clear hk); (try clear hi)) | ((with_reducible refine gate_callee (f := 58) rfl ?_); refine goesL_ (some 5) rfl rfl Tryd.func58 u20_ rfl #[.pointer (some ⟨g309, 0, none⟩)] rfl u1_ ?_; (with_reducible refine (spec_l11AnyFields.calls k g309 t307 t308 t310 t313 w _ ?side1 ?side2 A3.out).mono ?_); (case side1 => repeat (first | (with_reducible first | exact HI309.out | apply IsS99.alloc | apply IsS99.drewN | apply IsS99.drew | apply IsS99.set_1) | exact HI309.out)); (case side2 => repeat (first | (with_reducible first | exact HB.out | apply below_alloc | apply pw_below_drewN | apply below_drew1 | refine below_set ?_ (IsS99.ge HI309.out)) | exact HB.out)); rintro e w5 ⟨v311, rfl, ho0, hi, hb, hk⟩; refine ⟨_, rfl, ?_⟩; have n0_ := Aside0.mk (Kd.R_lower ho0 (below_size (by repeat (first | (with_reducible first | exact HB.out | apply below_alloc | apply pw_below_drewN | apply below_drew1 | refine below_set ?_ (IsS99.ge HI309.out)) | exact HB.out)))); have n1_ := Aside0.mk (hb); have n2_ := Aside0.mk (hi); clear HB; clear HI309; have HO312 := n0_; have HB := n1_; have HI309 := n2_; clear n0_ n1_ n2_; (try clear hb); (try clear hb2); (try clear hk); (try clear hi); (try clear ho0)))
 go_ret
 exact ⟨_, u4_, by (with_reducible repeat (first | apply Kd.R_alloc | apply Kd.R_drewN | apply Kd.R_drew)); exact HO312.out, by repeat (first | (with_reducible first | exact HB.out | apply below_alloc | apply pw_below_drewN | apply below_drew1 | refine below_set ?_ (IsS99.ge HI309.out)) | exact HB.out)⟩

/-! ### spec_FieldsPut: function 31 -/
def spec_FieldsPut.f (k : Nat) (l0 : List (S75)) : Option (ByteArray) := (spec_FieldsOk.f k l0).bind fun t314 => (if t314 = true then ((spec_l2Put.f k l0).bind fun t315 => (some t315)) else (some (⟨#[]⟩ : ByteArray)))
theorem spec_FieldsPut.mono : ∀ a0 k, LeO (spec_FieldsPut.f k a0) (spec_FieldsPut.f (k + 1) a0) := by
 intro a0 k
 unfold spec_FieldsPut.f
 repeat' first
   | (with_reducible exact spec_FieldsOk.mono _ _)
   | (with_reducible exact spec_l2Put.mono _ _)
   | (with_reducible exact LeO.refl _)
   | (with_reducible exact LeO.none _)
   | (with_reducible refine LeO.ite ?_ ?_)
   | (with_reducible refine LeO.bind ?_ (fun _ => ?_))
   | exact spec_FieldsOk.mono _ _
   | exact spec_l2Put.mono _ _
   | exact LeO.none _
   | refine LeO.ite ?_ ?_
   | refine LeO.bind ?_ (fun _ => ?_)
set_option maxHeartbeats 8000000 in
set_option maxRecDepth 100000 in
theorem spec_FieldsPut.calls (k : Nat) (A0 : Option Addr) (c0 : Nat) (l0 : List (S75)) (r : ByteArray) (w : World) (hr0 : Kd.C k75 w A0 l0.length l0) (hc0 : l0.length ≤ c0) (h : spec_FieldsPut.f k l0 = some r) :
  Calls Tryd.prog 31 #[.slice A0 l0.length c0] w fun e w' => e = .returned (.string r) ∧ Below w.heap.size w w' := by
 have HR0 := Aside0.mk hr0
 have HC0 := Aside0.mk hc0
 clear hr0 hc0
 have HB := Aside0.mk (Below.refl w.heap.size w)
 have H : ((spec_FieldsOk.f k l0).bind fun t314 => (if t314 = true then ((spec_l2Put.f k l0).bind fun t315 => (some t315)) else (some (⟨#[]⟩ : ByteArray)))) = some r := h
 clear h
 replace H := Option.bind_eq_some_iff.mp H
 obtain ⟨t314, A20, H⟩ := H
 replace H : (if t314 = true then ((spec_l2Put.f k l0).bind fun t315 => (some t315)) else (some (⟨#[]⟩ : ByteArray))) = some r := H
 have A2 := Aside0.mk A20
 clear A20
 by_cases c3 : t314 = true
 ·subst c3
  have H1 : ((spec_l2Put.f k l0).bind fun t315 => (some t315)) = some r := by rw [if_pos rfl] at H; exact H
  clear H
  have H := H1
  clear H1
  replace H := Option.bind_eq_some_iff.mp H
  obtain ⟨t315, A40, H⟩ := H
  replace H : (some t315) = some r := H
  have A4 := Aside0.mk A40
  clear A40
  obtain rfl := Option.some.inj H
  go_enter Tryd.func31, Tryd.ntmps31
  go_wp2_with (first | ((with_reducible refine gate_callee (f := 32) rfl ?_); refine goesL_ (some 4) rfl rfl Tryd.func32 u20_ rfl #[.slice A0 l0.length c0] rfl u1_ ?_; (with_reducible refine (spec_FieldsOk.calls k _ _ l0 true _ ?side1 ?side2 A2.out).mono ?_); (case side1 => repeat (first | exact HR0.out | (with_reducible refine Kd.C_alloc ?_ _) | (with_reducible refine Kd.C_drewN ?_ _) | (with_reducible refine Kd.C_drew ?_))); (case side2 => exact HC0.out); rintro e w5 ⟨rfl, hb⟩; refine ⟨_, rfl, ?_⟩; have n0_ := Aside0.mk (below_step u0_ hb); clear HB; have HB := n0_; clear n0_; (try clear hb); (try clear hb2); (try clear hk); (try clear hi)) | ((with_reducible refine gate_callee (f := 54) rfl ?_); refine goesL_ (some 7) rfl rfl Tryd.func54 u20_ rfl #[.slice A0 l0.length c0] rfl u1_ ?_; (with_reducible refine (spec_l2Put.calls k _ _ l0 t315 _ ?side1 ?side2 A4.out).mono ?_); (case side1 => repeat (first | exact (Kd.C_below HR0.out HB.out) | (with_reducible refine Kd.C_alloc ?_ _) | (with_reducible refine Kd.C_drewN ?_ _) | (with_reducible refine Kd.C_drew ?_))); (case side2 => exact HC0.out); rintro e w6 ⟨rfl, hb⟩; refine ⟨_, rfl, ?_⟩; have n0_ := Aside0.mk (below_step u0_ hb); clear HB; have HB := n0_; clear n0_; (try clear hb); (try clear hb2); (try clear hk); (try clear hi)))
  go_ret
  exact ⟨u4_, u0_⟩
 ·replace c3 := Bool.eq_false_iff.mpr c3
  subst c3
  have H1 : (some (⟨#[]⟩ : ByteArray)) = some r := by rw [if_neg (show ¬ (false = true) by decide)] at H; exact H
  clear H
  have H := H1
  clear H1
  obtain rfl := Option.some.inj H
  go_enter Tryd.func31, Tryd.ntmps31
  go_wp2_with (first | ((with_reducible refine gate_callee (f := 32) rfl ?_); refine goesL_ (some 4) rfl rfl Tryd.func32 u20_ rfl #[.slice A0 l0.length c0] rfl u1_ ?_; (with_reducible refine (spec_FieldsOk.calls k _ _ l0 false _ ?side1 ?side2 A2.out).mono ?_); (case side1 => repeat (first | exact HR0.out | (with_reducible refine Kd.C_alloc ?_ _) | (with_reducible refine Kd.C_drewN ?_ _) | (with_reducible refine Kd.C_drew ?_))); (case side2 => exact HC0.out); rintro e w7 ⟨rfl, hb⟩; refine ⟨_, rfl, ?_⟩; have n0_ := Aside0.mk (below_step u0_ hb); clear HB; have HB := n0_; clear n0_; (try clear hb); (try clear hb2); (try clear hk); (try clear hi)))
  go_ret
  exact ⟨u4_, u0_⟩

/-! ### laws_sdFields: function 33 -/
def laws_sdFields.l0 : Nat → List (S75) → List (S75) → Int → Option (Bool)
 | 0, _, _, _ => none
 | k + 1, x0, x1, x5 => if x5 < (x0.length : Int) then (if 0 ≤ x5 then (if x5 < (x1.length : Int) then (if (!((((rd_T75 x0 x5).f0).toList) == (((rd_T75 x1 x5).f0).toList)) || (!(((rd_T75 x0 x5).f1) == ((rd_T75 x1 x5).f1)) || (!(((rd_T75 x0 x5).f2) == ((rd_T75 x1 x5).f2))))) = true then (some false) else (laws_sdFields.l0 k x0 x1 (wrap64 (x5 + 1)))) else (none)) else (none)) else (some true)
def laws_sdFields.f (k : Nat) (l0 : List (S75)) (l1 : List (S75)) : Option (Bool) := if (l0.length : Int) = (l1.length : Int) then (laws_sdFields.l0 k l0 l1 0) else (some false)
theorem laws_sdFields.mono_l : ∀ k, (∀ y0 y1 y2, LeO (laws_sdFields.l0 k y0 y1 y2) (laws_sdFields.l0 (k + 1) y0 y1 y2))
 | 0 => fun _ _ _ r h => by simp [laws_sdFields.l0] at h
 | k + 1 => by
  have ih0 := laws_sdFields.mono_l k
  ·intro y0 y1 y2
   unfold laws_sdFields.l0
   repeat' first
   | (with_reducible exact ih0 _ _ _)
   | (with_reducible exact LeO.refl _)
   | (with_reducible exact LeO.none _)
   | (with_reducible refine LeO.ite ?_ ?_)
   | (with_reducible refine LeO.bind ?_ (fun _ => ?_))
   | exact ih0 _ _ _
   | exact LeO.none _
   | refine LeO.ite ?_ ?_
   | refine LeO.bind ?_ (fun _ => ?_)
theorem laws_sdFields.mono : ∀ a0 a1 k, LeO (laws_sdFields.f k a0 a1) (laws_sdFields.f (k + 1) a0 a1) := by
 intro a0 a1 k
 have ih0 := laws_sdFields.mono_l k
 unfold laws_sdFields.f
 repeat' first
   | (with_reducible exact ih0 _ _ _)
   | (with_reducible exact LeO.refl _)
   | (with_reducible exact LeO.none _)
   | (with_reducible refine LeO.ite ?_ ?_)
   | (with_reducible refine LeO.bind ?_ (fun _ => ?_))
   | exact ih0 _ _ _
   | exact LeO.none _
   | refine LeO.ite ?_ ?_
   | refine LeO.bind ?_ (fun _ => ?_)
set_option maxHeartbeats 8000000 in
set_option maxRecDepth 100000 in
theorem laws_sdFields.calls (k : Nat) (A0 : Option Addr) (c0 : Nat) (l0 : List (S75)) (A1 : Option Addr) (c1 : Nat) (l1 : List (S75)) (r : Bool) (w : World) (hr0 : Kd.C k75 w A0 l0.length l0) (hc0 : l0.length ≤ c0) (hr1 : Kd.C k75 w A1 l1.length l1) (hc1 : l1.length ≤ c1) (h : laws_sdFields.f k l0 l1 = some r) :
  Calls Tryd.prog 33 #[.slice A0 l0.length c0, .slice A1 l1.length c1] w fun e w' => e = .returned (.bool r) ∧ Drawn0 w w' := by
 have hu75 := Tryd.underlying75
 have HR0 := Aside0.mk hr0
 have HC0 := Aside0.mk hc0
 clear hr0 hc0
 have HR1 := Aside0.mk hr1
 have HC1 := Aside0.mk hc1
 clear hr1 hc1
 have H : (if (l0.length : Int) = (l1.length : Int) then (laws_sdFields.l0 k l0 l1 0) else (some false)) = some r := h
 clear h
 by_cases c3 : (l0.length : Int) = (l1.length : Int)
 ·rw [if_pos c3] at H
  have c3b0 : ((l0.length : Int) == (l1.length : Int)) = true := beq_iff_eq.mpr c3
  have c3b1 : ((l0.length : Int) != (l1.length : Int)) = false := bne_eq_false_iff_eq.mpr c3
  have c3b2 : (l0.length == l1.length) = true := by first | simpa using c3 | (simp at c3 ⊢; omega)
  clear c3
  have H' := Aside0.mk H
  clear H
  go_enter Tryd.func33, Tryd.ntmps33
  go_wp2
  repeat (go_quiet (fail); try go_wp2)
  go_loopg [5] k (fun kq v5 w' => ∃ (x5_1 : Int), v5 = .int .i64 x5_1 ∧ Aside0 (laws_sdFields.l0 kq l0 l1 x5_1 = some r) ∧ Aside0 (kq ≤ k) ∧ Drawn0 w w')
  case atStart => exact ⟨(0), u10_, H', ⟨Nat.le_refl _⟩, u11_⟩
  case round =>
   clear H'
   try clear c1
   try clear p2
   try clear c3
   try clear c3b0
   try clear c3b1
   try clear c3b2
   obtain ⟨x5_1, rfl, HA, HK1, ⟨m1, rfl⟩⟩ := hrel
   cases gk with
   | zero => exact absurd HA.out (by simp [laws_sdFields.l0])
   | succ k1 =>
    have H := HA.out
    clear HA
    simp only [laws_sdFields.l0] at H
    by_cases c4 : x5_1 < (l0.length : Int)
    ·rw [if_pos c4] at H
     have c4b0 : decide (x5_1 < (l0.length : Int)) = true := decide_eq_true c4
     clear c4
     by_cases c5 : 0 ≤ x5_1
     ·rw [if_pos c5] at H
      have c5b0 : decide (0 ≤ x5_1) = true := decide_eq_true c5
      clear c5
      by_cases c6 : x5_1 < (l1.length : Int)
      ·rw [if_pos c6] at H
       have c6b0 : decide (x5_1 < (l1.length : Int)) = true := decide_eq_true c6
       clear c6
       by_cases c7 : (!((((rd_T75 l0 x5_1).f0).toList) == (((rd_T75 l1 x5_1).f0).toList)) || (!(((rd_T75 l0 x5_1).f1) == ((rd_T75 l1 x5_1).f1)) || (!(((rd_T75 l0 x5_1).f2) == ((rd_T75 l1 x5_1).f2))))) = true
       ·rw [if_pos c7] at H
        have c7b0 : (!((((rd_T75 l0 x5_1).f0).toList) == (((rd_T75 l1 x5_1).f0).toList)) || (!(((rd_T75 l0 x5_1).f1) == ((rd_T75 l1 x5_1).f1)) || (!(((rd_T75 l0 x5_1).f2) == ((rd_T75 l1 x5_1).f2))))) = true := c7
        clear c7
        obtain rfl := Option.some.inj H
        have p316 : 0 ≤ (x5_1 : Int) := of_decide_eq_true u3_
        have q316 : x5_1 < (l0.length : Int) := of_decide_eq_true u3_
        obtain ⟨ad316, e316, hx316_0, hx316_1, hx316_2⟩ := at_T75 HR0.out x5_1 p316 q316
        cases e316
        replace p316 := eq_true p316
        replace q316 := eq_true q316
        have p317 : 0 ≤ (x5_1 : Int) := of_decide_eq_true u3_
        have q317 : x5_1 < (l1.length : Int) := of_decide_eq_true u3_
        obtain ⟨ad317, e317, hx317_0, hx317_1, hx317_2⟩ := at_T75 HR1.out x5_1 p317 q317
        cases e317
        replace p317 := eq_true p317
        replace q317 := eq_true q317
        go_wp2
        repeat (go_quiet (fail); try go_wp2)
        go_ret
        exact ⟨u12_, u11_⟩
       ·rw [if_neg c7] at H
        have c7b0 : (!((((rd_T75 l0 x5_1).f0).toList) == (((rd_T75 l1 x5_1).f0).toList)) || (!(((rd_T75 l0 x5_1).f1) == ((rd_T75 l1 x5_1).f1)) || (!(((rd_T75 l0 x5_1).f2) == ((rd_T75 l1 x5_1).f2))))) = false := by simpa using c7
        clear c7
        have H' := Aside0.mk H
        clear H
        have p316 : 0 ≤ (x5_1 : Int) := of_decide_eq_true u3_
        have q316 : x5_1 < (l0.length : Int) := of_decide_eq_true u3_
        obtain ⟨ad316, e316, hx316_0, hx316_1, hx316_2⟩ := at_T75 HR0.out x5_1 p316 q316
        cases e316
        replace p316 := eq_true p316
        replace q316 := eq_true q316
        have p317 : 0 ≤ (x5_1 : Int) := of_decide_eq_true u3_
        have q317 : x5_1 < (l1.length : Int) := of_decide_eq_true u3_
        obtain ⟨ad317, e317, hx317_0, hx317_1, hx317_2⟩ := at_T75 HR1.out x5_1 p317 q317
        cases e317
        replace p317 := eq_true p317
        replace q317 := eq_true q317
        go_wp2
        repeat (go_quiet (fail); try go_wp2)
        go_roundg k1
        case measure => have := HK1.out; omega
        case rel => exact ⟨(wrap64 (x5_1 + 1)), u10_, H', ⟨u48_⟩, u11_⟩
      ·rw [if_neg c6] at H
       exact absurd H u43_
     ·rw [if_neg c5] at H
      exact absurd H u43_
    ·rw [if_neg c4] at H
     have c4b0 : decide (x5_1 < (l0.length : Int)) = false := decide_eq_false c4
     clear c4
     obtain rfl := Option.some.inj H
     go_wp2
     repeat (go_quiet (fail); try go_wp2)
     go_ret
     exact ⟨u12_, u11_⟩
 ·rw [if_neg c3] at H
  have c3b0 : ((l0.length : Int) == (l1.length : Int)) = false := beq_eq_false_iff_ne.mpr c3
  have c3b1 : ((l0.length : Int) != (l1.length : Int)) = true := bne_iff_ne.mpr c3
  have c3b2 : (l0.length == l1.length) = false := by first | simpa using c3 | (simp at c3 ⊢; omega)
  obtain rfl := Option.some.inj H
  go_enter Tryd.func33, Tryd.ntmps33
  go_wp2
  repeat (go_quiet (fail); try go_wp2)
  go_ret
  exact ⟨u12_, u11_⟩

end Go.Proofs.YtelcdhjdlgedeaaDoor.PFnFields
