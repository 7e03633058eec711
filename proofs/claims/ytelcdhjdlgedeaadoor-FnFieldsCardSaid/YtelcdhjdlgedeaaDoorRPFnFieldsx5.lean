/- Contracts of Go functions that the law FnFields reaches: each is told as a plain Lean function, with the walk that shows it; no condition beyond what each states. Written by a program of this session round the kit's printer. -/
import Derived.Test.YtelcdhjdlgedeaaDoorRPFnFieldsx0
import Derived.Test.YtelcdhjdlgedeaaDoorRPFnFieldsx2
import Derived.Test.YtelcdhjdlgedeaaDoorRPFnFieldsx3
import Derived.Test.YtelcdhjdlgedeaaDoorRPFnFieldsx4
namespace Go.Proofs.YtelcdhjdlgedeaaDoor.PFnFields
open Go.RowKit Go.Proofs.YtelcdhjdlgedeaaDoorW.PrintWords Go.Proofs.YtelcdhjdlgedeaaDoorW.PrintLast Go.Proofs.YtelcdhjdlgedeaaDoorW.PrintMore
attribute [local go_sem] isSome_setCell run_str_geq run_str_leq max2_int min2_int max_two min_two max_three min_three max_four min_four   -- for this text's walks alone
set_option linter.unusedVariables false
set_option linter.unusedSimpArgs false

/-! ### spec_l2Put: function 54 -/
def spec_l2Put.l0 : Nat → List (S75) → List ByteArray → ByteArray → Int → Option (ByteArray)
 | 0, _, _, _, _ => none
 | k + 1, x0, x3, x4, x5 => if x5 < (x0.length : Int) then (if x5 > 0 then (if x4.size + 1 ≤ 9223372036854775807 then (if 0 ≤ x5 then (if (x4 ++ (⟨#[32]⟩ : ByteArray)).size + ((rd_T75 x0 x5).f0).size ≤ 9223372036854775807 then (if ((x4 ++ (⟨#[32]⟩ : ByteArray)) ++ ((rd_T75 x0 x5).f0)).size + 1 ≤ 9223372036854775807 then (if 0 ≤ ((rd_T75 x0 x5).f1) then (if ((rd_T75 x0 x5).f1) < (x3.length : Int) then (if (((x4 ++ (⟨#[32]⟩ : ByteArray)) ++ ((rd_T75 x0 x5).f0)) ++ (⟨#[58]⟩ : ByteArray)).size + (rdOf ByteArray.empty x3 ((rd_T75 x0 x5).f1)).size ≤ 9223372036854775807 then (if ((rd_T75 x0 x5).f1) = 1 then (if ((((x4 ++ (⟨#[32]⟩ : ByteArray)) ++ ((rd_T75 x0 x5).f0)) ++ (⟨#[58]⟩ : ByteArray)) ++ (rdOf ByteArray.empty x3 ((rd_T75 x0 x5).f1))).size + 1 ≤ 9223372036854775807 then ((spec_l1Dec.f k ((rd_T75 x0 x5).f2)).bind fun t146 => (if (((((x4 ++ (⟨#[32]⟩ : ByteArray)) ++ ((rd_T75 x0 x5).f0)) ++ (⟨#[58]⟩ : ByteArray)) ++ (rdOf ByteArray.empty x3 ((rd_T75 x0 x5).f1))) ++ (⟨#[58]⟩ : ByteArray)).size + t146.size ≤ 9223372036854775807 then (spec_l2Put.l0 k x0 x3 ((((((x4 ++ (⟨#[32]⟩ : ByteArray)) ++ ((rd_T75 x0 x5).f0)) ++ (⟨#[58]⟩ : ByteArray)) ++ (rdOf ByteArray.empty x3 ((rd_T75 x0 x5).f1))) ++ (⟨#[58]⟩ : ByteArray)) ++ t146) (wrap64 (x5 + 1))) else (none))) else (none)) else (spec_l2Put.l0 k x0 x3 ((((x4 ++ (⟨#[32]⟩ : ByteArray)) ++ ((rd_T75 x0 x5).f0)) ++ (⟨#[58]⟩ : ByteArray)) ++ (rdOf ByteArray.empty x3 ((rd_T75 x0 x5).f1))) (wrap64 (x5 + 1)))) else (none)) else (none)) else (none)) else (none)) else (none)) else (none)) else (none)) else (if 0 ≤ x5 then (if x4.size + ((rd_T75 x0 x5).f0).size ≤ 9223372036854775807 then (if (x4 ++ ((rd_T75 x0 x5).f0)).size + 1 ≤ 9223372036854775807 then (if 0 ≤ ((rd_T75 x0 x5).f1) then (if ((rd_T75 x0 x5).f1) < (x3.length : Int) then (if ((x4 ++ ((rd_T75 x0 x5).f0)) ++ (⟨#[58]⟩ : ByteArray)).size + (rdOf ByteArray.empty x3 ((rd_T75 x0 x5).f1)).size ≤ 9223372036854775807 then (if ((rd_T75 x0 x5).f1) = 1 then (if (((x4 ++ ((rd_T75 x0 x5).f0)) ++ (⟨#[58]⟩ : ByteArray)) ++ (rdOf ByteArray.empty x3 ((rd_T75 x0 x5).f1))).size + 1 ≤ 9223372036854775807 then ((spec_l1Dec.f k ((rd_T75 x0 x5).f2)).bind fun t152 => (if ((((x4 ++ ((rd_T75 x0 x5).f0)) ++ (⟨#[58]⟩ : ByteArray)) ++ (rdOf ByteArray.empty x3 ((rd_T75 x0 x5).f1))) ++ (⟨#[58]⟩ : ByteArray)).size + t152.size ≤ 9223372036854775807 then (spec_l2Put.l0 k x0 x3 (((((x4 ++ ((rd_T75 x0 x5).f0)) ++ (⟨#[58]⟩ : ByteArray)) ++ (rdOf ByteArray.empty x3 ((rd_T75 x0 x5).f1))) ++ (⟨#[58]⟩ : ByteArray)) ++ t152) (wrap64 (x5 + 1))) else (none))) else (none)) else (spec_l2Put.l0 k x0 x3 (((x4 ++ ((rd_T75 x0 x5).f0)) ++ (⟨#[58]⟩ : ByteArray)) ++ (rdOf ByteArray.empty x3 ((rd_T75 x0 x5).f1))) (wrap64 (x5 + 1)))) else (none)) else (none)) else (none)) else (none)) else (none)) else (none))) else (some x4)
def spec_l2Put.f (k : Nat) (l0 : List (S75)) : Option (ByteArray) := spec_l2Put.l0 k l0 (([(⟨#[]⟩ : ByteArray), (⟨#[116, 101, 120, 116]⟩ : ByteArray), (⟨#[110, 117, 109]⟩ : ByteArray), (⟨#[116, 97, 103]⟩ : ByteArray)] : List ByteArray)) (⟨#[]⟩ : ByteArray) 0
theorem spec_l2Put.mono_l : ∀ k, (∀ y0 y1 y2 y3, LeO (spec_l2Put.l0 k y0 y1 y2 y3) (spec_l2Put.l0 (k + 1) y0 y1 y2 y3))
 | 0 => fun _ _ _ _ r h => by simp [spec_l2Put.l0] at h
 | k + 1 => by
  have ih0 := spec_l2Put.mono_l k
  ·intro y0 y1 y2 y3
   unfold spec_l2Put.l0
   repeat' first
   | (with_reducible exact ih0 _ _ _ _)
   | (with_reducible exact spec_l1Dec.mono _ _)
   | (with_reducible exact LeO.refl _)
   | (with_reducible exact LeO.none _)
   | (with_reducible refine LeO.ite ?_ ?_)
   | (with_reducible refine LeO.bind ?_ (fun _ => ?_))
   | exact ih0 _ _ _ _
   | exact spec_l1Dec.mono _ _
   | exact LeO.none _
   | refine LeO.ite ?_ ?_
   | refine LeO.bind ?_ (fun _ => ?_)
theorem spec_l2Put.mono : ∀ a0 k, LeO (spec_l2Put.f k a0) (spec_l2Put.f (k + 1) a0) := by
 intro a0 k
 have ih0 := spec_l2Put.mono_l k
 unfold spec_l2Put.f
 repeat' first
   | (with_reducible exact ih0 _ _ _ _)
   | (with_reducible exact spec_l1Dec.mono _ _)
   | (with_reducible exact LeO.refl _)
   | (with_reducible exact LeO.none _)
   | (with_reducible refine LeO.ite ?_ ?_)
   | (with_reducible refine LeO.bind ?_ (fun _ => ?_))
   | exact ih0 _ _ _ _
   | exact spec_l1Dec.mono _ _
   | exact LeO.none _
   | refine LeO.ite ?_ ?_
   | refine LeO.bind ?_ (fun _ => ?_)
set_option maxHeartbeats 8000000 in
set_option maxRecDepth 100000 in
theorem spec_l2Put.calls (k : Nat) (A0 : Option Addr) (c0 : Nat) (l0 : List (S75)) (r : ByteArray) (w : World) (hr0 : Kd.C k75 w A0 l0.length l0) (hc0 : l0.length ≤ c0) (h : spec_l2Put.f k l0 = some r) :
  Calls Tryd.prog 54 #[.slice A0 l0.length c0] w fun e w' => e = .returned (.string r) ∧ Below w.heap.size w w' := by
 have HR0 := Aside0.mk hr0
 have HC0 := Aside0.mk hc0
 clear hr0 hc0
 have HB := Aside0.mk (Below.refl w.heap.size w)
 have H : (spec_l2Put.l0 k l0 (([(⟨#[]⟩ : ByteArray), (⟨#[116, 101, 120, 116]⟩ : ByteArray), (⟨#[110, 117, 109]⟩ : ByteArray), (⟨#[116, 97, 103]⟩ : ByteArray)] : List ByteArray)) (⟨#[]⟩ : ByteArray) 0) = some r := h
 clear h
 obtain ⟨y138, hy138⟩ : ∃ y_ : List ByteArray, y_ = (([(⟨#[]⟩ : ByteArray), (⟨#[116, 101, 120, 116]⟩ : ByteArray), (⟨#[110, 117, 109]⟩ : ByteArray), (⟨#[116, 97, 103]⟩ : ByteArray)] : List ByteArray)) := ⟨_, rfl⟩
 replace H : (spec_l2Put.l0 k l0 y138 (⟨#[]⟩ : ByteArray) 0) = some r := by first | (rw [hy138]; with_reducible exact H) | (have H2_ := (Option.bind_some _ _).symm.trans H; rw [hy138]; with_reducible exact H2_) | (have H2_ := (Option.bind_some _ _).symm.trans H; with_reducible exact H2_) | with_reducible exact H | (rw [hy138]; exact H) | exact H
 have Ny138 := Aside0.mk hy138
 clear hy138
 have H' := Aside0.mk H
 clear H
 go_enter Tryd.func54, Tryd.ntmps54
 go_wp2_with (first | ((with_reducible refine gate_dst (N := 6) rfl ?_); refine Kd.R_lit Kd.string _ 9 ?hg (N := 6) ?hd (xs := ([(⟨#[]⟩ : ByteArray), (⟨#[116, 101, 120, 116]⟩ : ByteArray), (⟨#[110, 117, 109]⟩ : ByteArray), (⟨#[116, 97, 103]⟩ : ByteArray)] : List ByteArray)) (inner := [.string (⟨#[]⟩ : ByteArray), .string (⟨#[116, 101, 120, 116]⟩ : ByteArray), .string (⟨#[110, 117, 109]⟩ : ByteArray), .string (⟨#[116, 97, 103]⟩ : ByteArray)]) (ok := fun _ => True) (okp := fun _ => True) ?hr ?hp (fun _ hk => hk) trivial (Below.refl _ _) (Nat.le_refl _) u43_ ?_; (case hd => rfl); (case hg => rfl); (case hr => first | (go_simp; done) | (go_simp; rfl)); (case hp => exact (Reps.one (show Kd.M Kd.string _ _ _ (⟨#[]⟩ : ByteArray) [.string (⟨#[]⟩ : ByteArray)] from rfl) (Reps.one (show Kd.M Kd.string _ _ _ (⟨#[116, 101, 120, 116]⟩ : ByteArray) [.string (⟨#[116, 101, 120, 116]⟩ : ByteArray)] from rfl) (Reps.one (show Kd.M Kd.string _ _ _ (⟨#[110, 117, 109]⟩ : ByteArray) [.string (⟨#[110, 117, 109]⟩ : ByteArray)] from rfl) (Reps.one (show Kd.M Kd.string _ _ _ (⟨#[116, 97, 103]⟩ : ByteArray) [.string (⟨#[116, 97, 103]⟩ : ByteArray)] from rfl) (Reps.none _ _)))))); intro v139 w2 ho3 hb hg_ hnew_; clear hg_ hnew_; (first | rw [← Ny138.out] at ho3 | (simp only [Int.reduceToNat] at ho3; rw [← Ny138.out] at ho3)); have n0_ := Aside0.mk (Kd.R_lower ho3 (below_size u0_)); have n1_ := Aside0.mk (below_step u0_ hb); clear HB; have HO140 := n0_; have HB := n1_; clear n0_ n1_; clear hb ho3))
 repeat (go_quiet (first | ((with_reducible refine gate_dst (N := 6) rfl ?_); refine Kd.R_lit Kd.string _ 9 ?hg (N := 6) ?hd (xs := ([(⟨#[]⟩ : ByteArray), (⟨#[116, 101, 120, 116]⟩ : ByteArray), (⟨#[110, 117, 109]⟩ : ByteArray), (⟨#[116, 97, 103]⟩ : ByteArray)] : List ByteArray)) (inner := [.string (⟨#[]⟩ : ByteArray), .string (⟨#[116, 101, 120, 116]⟩ : ByteArray), .string (⟨#[110, 117, 109]⟩ : ByteArray), .string (⟨#[116, 97, 103]⟩ : ByteArray)]) (ok := fun _ => True) (okp := fun _ => True) ?hr ?hp (fun _ hk => hk) trivial (Below.refl _ _) (Nat.le_refl _) u43_ ?_; (case hd => rfl); (case hg => rfl); (case hr => first | (go_simp; done) | (go_simp; rfl)); (case hp => exact (Reps.one (show Kd.M Kd.string _ _ _ (⟨#[]⟩ : ByteArray) [.string (⟨#[]⟩ : ByteArray)] from rfl) (Reps.one (show Kd.M Kd.string _ _ _ (⟨#[116, 101, 120, 116]⟩ : ByteArray) [.string (⟨#[116, 101, 120, 116]⟩ : ByteArray)] from rfl) (Reps.one (show Kd.M Kd.string _ _ _ (⟨#[110, 117, 109]⟩ : ByteArray) [.string (⟨#[110, 117, 109]⟩ : ByteArray)] from rfl) (Reps.one (show Kd.M Kd.string _ _ _ (⟨#[116, 97, 103]⟩ : ByteArray) [.string (⟨#[116, 97, 103]⟩ : ByteArray)] from rfl) (Reps.none _ _)))))); intro v139 w2 ho3 hb hg_ hnew_; clear hg_ hnew_; (first | rw [← Ny138.out] at ho3 | (simp only [Int.reduceToNat] at ho3; rw [← Ny138.out] at ho3)); have n0_ := Aside0.mk (Kd.R_lower ho3 (below_size u0_)); have n1_ := Aside0.mk (below_step u0_ hb); clear HB; have HO140 := n0_; have HB := n1_; clear n0_ n1_; clear hb ho3)); try go_wp2_with (first | ((with_reducible refine gate_dst (N := 6) rfl ?_); refine Kd.R_lit Kd.string _ 9 ?hg (N := 6) ?hd (xs := ([(⟨#[]⟩ : ByteArray), (⟨#[116, 101, 120, 116]⟩ : ByteArray), (⟨#[110, 117, 109]⟩ : ByteArray), (⟨#[116, 97, 103]⟩ : ByteArray)] : List ByteArray)) (inner := [.string (⟨#[]⟩ : ByteArray), .string (⟨#[116, 101, 120, 116]⟩ : ByteArray), .string (⟨#[110, 117, 109]⟩ : ByteArray), .string (⟨#[116, 97, 103]⟩ : ByteArray)]) (ok := fun _ => True) (okp := fun _ => True) ?hr ?hp (fun _ hk => hk) trivial (Below.refl _ _) (Nat.le_refl _) u43_ ?_; (case hd => rfl); (case hg => rfl); (case hr => first | (go_simp; done) | (go_simp; rfl)); (case hp => exact (Reps.one (show Kd.M Kd.string _ _ _ (⟨#[]⟩ : ByteArray) [.string (⟨#[]⟩ : ByteArray)] from rfl) (Reps.one (show Kd.M Kd.string _ _ _ (⟨#[116, 101, 120, 116]⟩ : ByteArray) [.string (⟨#[116, 101, 120, 116]⟩ : ByteArray)] from rfl) (Reps.one (show Kd.M Kd.string _ _ _ (⟨#[110, 117, 109]⟩ : ByteArray) [.string (⟨#[110, 117, 109]⟩ : ByteArray)] from rfl) (Reps.one (show Kd.M Kd.string _ _ _ (⟨#[116, 97, 103]⟩ : ByteArray) [.string (⟨#[116, 97, 103]⟩ : ByteArray)] from rfl) (Reps.none _ _)))))); intro v139 w2 ho3 hb hg_ hnew_; clear hg_ hnew_; (first | rw [← Ny138.out] at ho3 | (simp only [Int.reduceToNat] at ho3; rw [← Ny138.out] at ho3)); have n0_ := Aside0.mk (Kd.R_lower ho3 (below_size u0_)); have n1_ := Aside0.mk (below_step u0_ hb); clear HB; have HO140 := n0_; have HB := n1_; clear n0_ n1_; clear hb ho3)))
 go_loopg [4, 5] k (fun kq v4 v5 w' => ∃ (x4_1 : ByteArray) (x5_1 : Int), v4 = .string x4_1 ∧ v5 = .int .i64 x5_1 ∧ Aside0 (spec_l2Put.l0 kq l0 y138 x4_1 x5_1 = some r) ∧ Aside0 (kq ≤ k) ∧ Aside0 (Kd.R Kd.string 9 w' w.heap.size (fun _ => True) v139 y138) ∧ Aside0 (Below w.heap.size w w'))
 case atStart => exact ⟨((⟨#[]⟩ : ByteArray)), (0), u10_, u10_, H', ⟨Nat.le_refl _⟩, ⟨by (with_reducible repeat (first | apply Kd.R_alloc | apply Kd.R_drewN | apply Kd.R_drew)); exact HO140.out⟩, ⟨u0_⟩⟩
 case round =>
  clear H'
  try clear p2
  obtain ⟨x4_1, x5_1, rfl, rfl, HA, HK1, HO_3, HB⟩ := hrel
  cases gk with
  | zero => exact absurd HA.out (by simp [spec_l2Put.l0])
  | succ k1 =>
   have H := HA.out
   clear HA
   simp only [spec_l2Put.l0] at H
   by_cases c4 : x5_1 < (l0.length : Int)
   ·rw [if_pos c4] at H
    have c4b0 : decide (x5_1 < (l0.length : Int)) = true := decide_eq_true c4
    clear c4
    by_cases c5 : x5_1 > 0
    ·rw [if_pos c5] at H
     have c5b0 : decide (0 < x5_1) = true := decide_eq_true c5
     clear c5
     by_cases c6 : x4_1.size + 1 ≤ 9223372036854775807
     ·rw [if_pos c6] at H
      have c6b0 := eq_true c6
      have c6b1 : decide (x4_1.size + 1 ≤ 9223372036854775807) = true := decide_eq_true c6
      try have c6b2 : (9223372036854775807 < x4_1.size + 1) = False := eq_false (Nat.not_lt.2 c6)
      by_cases c7 : 0 ≤ x5_1
      ·rw [if_pos c7] at H
       have c7b0 : decide (0 ≤ x5_1) = true := decide_eq_true c7
       clear c7
       by_cases c8 : (x4_1 ++ (⟨#[32]⟩ : ByteArray)).size + ((rd_T75 l0 x5_1).f0).size ≤ 9223372036854775807
       ·rw [if_pos c8] at H
        have c8b0 := eq_true c8
        have c8b1 : decide ((x4_1 ++ (⟨#[32]⟩ : ByteArray)).size + ((rd_T75 l0 x5_1).f0).size ≤ 9223372036854775807) = true := decide_eq_true c8
        try have c8b2 : (9223372036854775807 < (x4_1 ++ (⟨#[32]⟩ : ByteArray)).size + ((rd_T75 l0 x5_1).f0).size) = False := eq_false (Nat.not_lt.2 c8)
        try have c8b3 := c8; try simp only [ByteArray.size_append, size_lit, List.size_toArray, List.length_cons, List.length_nil, Nat.zero_add, Nat.reduceAdd] at c8b3; try have c8b4 := eq_true c8b3; try have c8b5 := decide_eq_true c8b3; try have c8b6 := eq_false (Nat.not_lt.2 c8b3)
        try have c8b7 := c8b3; try simp at c8b7; try have c8b8 := eq_true c8b7; try have c8b9 := decide_eq_true c8b7; try have c8bA := eq_false (Nat.not_lt.2 c8b7)
        by_cases c9 : ((x4_1 ++ (⟨#[32]⟩ : ByteArray)) ++ ((rd_T75 l0 x5_1).f0)).size + 1 ≤ 9223372036854775807
        ·rw [if_pos c9] at H
         have c9b0 := eq_true c9
         have c9b1 : decide (((x4_1 ++ (⟨#[32]⟩ : ByteArray)) ++ ((rd_T75 l0 x5_1).f0)).size + 1 ≤ 9223372036854775807) = true := decide_eq_true c9
         try have c9b2 : (9223372036854775807 < ((x4_1 ++ (⟨#[32]⟩ : ByteArray)) ++ ((rd_T75 l0 x5_1).f0)).size + 1) = False := eq_false (Nat.not_lt.2 c9)
         try have c9b3 := c9; try simp only [ByteArray.size_append, size_lit, List.size_toArray, List.length_cons, List.length_nil, Nat.zero_add, Nat.reduceAdd] at c9b3; try have c9b4 := eq_true c9b3; try have c9b5 := decide_eq_true c9b3; try have c9b6 := eq_false (Nat.not_lt.2 c9b3)
         try have c9b7 := c9b3; try simp at c9b7; try have c9b8 := eq_true c9b7; try have c9b9 := decide_eq_true c9b7; try have c9bA := eq_false (Nat.not_lt.2 c9b7)
         by_cases c10 : 0 ≤ ((rd_T75 l0 x5_1).f1)
         ·rw [if_pos c10] at H
          have c10b0 : decide (0 ≤ ((rd_T75 l0 x5_1).f1)) = true := decide_eq_true c10
          clear c10
          by_cases c11 : ((rd_T75 l0 x5_1).f1) < (y138.length : Int)
          ·rw [if_pos c11] at H
           have c11b0 : decide (((rd_T75 l0 x5_1).f1) < (y138.length : Int)) = true := decide_eq_true c11
           clear c11
           by_cases c12 : (((x4_1 ++ (⟨#[32]⟩ : ByteArray)) ++ ((rd_T75 l0 x5_1).f0)) ++ (⟨#[58]⟩ : ByteArray)).size + (rdOf ByteArray.empty y138 ((rd_T75 l0 x5_1).f1)).size ≤ 9223372036854775807
           ·rw [if_pos c12] at H
            have c12b0 := eq_true c12
            have c12b1 : decide ((((x4_1 ++ (⟨#[32]⟩ : ByteArray)) ++ ((rd_T75 l0 x5_1).f0)) ++ (⟨#[58]⟩ : ByteArray)).size + (rdOf ByteArray.empty y138 ((rd_T75 l0 x5_1).f1)).size ≤ 9223372036854775807) = true := decide_eq_true c12
            try have c12b2 : (9223372036854775807 < (((x4_1 ++ (⟨#[32]⟩ : ByteArray)) ++ ((rd_T75 l0 x5_1).f0)) ++ (⟨#[58]⟩ : ByteArray)).size + (rdOf ByteArray.empty y138 ((rd_T75 l0 x5_1).f1)).size) = False := eq_false (Nat.not_lt.2 c12)
            try have c12b3 := c12; try simp only [ByteArray.size_append, size_lit, List.size_toArray, List.length_cons, List.length_nil, Nat.zero_add, Nat.reduceAdd] at c12b3; try have c12b4 := eq_true c12b3; try have c12b5 := decide_eq_true c12b3; try have c12b6 := eq_false (Nat.not_lt.2 c12b3)
            try have c12b7 := c12b3; try simp at c12b7; try have c12b8 := eq_true c12b7; try have c12b9 := decide_eq_true c12b7; try have c12bA := eq_false (Nat.not_lt.2 c12b7)
            by_cases c13 : ((rd_T75 l0 x5_1).f1) = 1
            ·rw [if_pos c13] at H
             have c13b0 : (((rd_T75 l0 x5_1).f1) == 1) = true := beq_iff_eq.mpr c13
             have c13b1 : (((rd_T75 l0 x5_1).f1) != 1) = false := bne_eq_false_iff_eq.mpr c13
             clear c13
             by_cases c14 : ((((x4_1 ++ (⟨#[32]⟩ : ByteArray)) ++ ((rd_T75 l0 x5_1).f0)) ++ (⟨#[58]⟩ : ByteArray)) ++ (rdOf ByteArray.empty y138 ((rd_T75 l0 x5_1).f1))).size + 1 ≤ 9223372036854775807
             ·rw [if_pos c14] at H
              have c14b0 := eq_true c14
              have c14b1 : decide (((((x4_1 ++ (⟨#[32]⟩ : ByteArray)) ++ ((rd_T75 l0 x5_1).f0)) ++ (⟨#[58]⟩ : ByteArray)) ++ (rdOf ByteArray.empty y138 ((rd_T75 l0 x5_1).f1))).size + 1 ≤ 9223372036854775807) = true := decide_eq_true c14
              try have c14b2 : (9223372036854775807 < ((((x4_1 ++ (⟨#[32]⟩ : ByteArray)) ++ ((rd_T75 l0 x5_1).f0)) ++ (⟨#[58]⟩ : ByteArray)) ++ (rdOf ByteArray.empty y138 ((rd_T75 l0 x5_1).f1))).size + 1) = False := eq_false (Nat.not_lt.2 c14)
              try have c14b3 := c14; try simp only [ByteArray.size_append, size_lit, List.size_toArray, List.length_cons, List.length_nil, Nat.zero_add, Nat.reduceAdd] at c14b3; try have c14b4 := eq_true c14b3; try have c14b5 := decide_eq_true c14b3; try have c14b6 := eq_false (Nat.not_lt.2 c14b3)
              try have c14b7 := c14b3; try simp at c14b7; try have c14b8 := eq_true c14b7; try have c14b9 := decide_eq_true c14b7; try have c14bA := eq_false (Nat.not_lt.2 c14b7)
              replace H := Option.bind_eq_some_iff.mp H
              obtain ⟨t146, A150, H⟩ := H
              replace H : (if (((((x4_1 ++ (⟨#[32]⟩ : ByteArray)) ++ ((rd_T75 l0 x5_1).f0)) ++ (⟨#[58]⟩ : ByteArray)) ++ (rdOf ByteArray.empty y138 ((rd_T75 l0 x5_1).f1))) ++ (⟨#[58]⟩ : ByteArray)).size + t146.size ≤ 9223372036854775807 then (spec_l2Put.l0 k1 l0 y138 ((((((x4_1 ++ (⟨#[32]⟩ : ByteArray)) ++ ((rd_T75 l0 x5_1).f0)) ++ (⟨#[58]⟩ : ByteArray)) ++ (rdOf ByteArray.empty y138 ((rd_T75 l0 x5_1).f1))) ++ (⟨#[58]⟩ : ByteArray)) ++ t146) (wrap64 (x5_1 + 1))) else (none)) = some r := H
              have A15 := Aside0.mk A150
              clear A150
              by_cases c16 : (((((x4_1 ++ (⟨#[32]⟩ : ByteArray)) ++ ((rd_T75 l0 x5_1).f0)) ++ (⟨#[58]⟩ : ByteArray)) ++ (rdOf ByteArray.empty y138 ((rd_T75 l0 x5_1).f1))) ++ (⟨#[58]⟩ : ByteArray)).size + t146.size ≤ 9223372036854775807
              ·rw [if_pos c16] at H
               have c16b0 := eq_true c16
               have c16b1 : decide ((((((x4_1 ++ (⟨#[32]⟩ : ByteArray)) ++ ((rd_T75 l0 x5_1).f0)) ++ (⟨#[58]⟩ : ByteArray)) ++ (rdOf ByteArray.empty y138 ((rd_T75 l0 x5_1).f1))) ++ (⟨#[58]⟩ : ByteArray)).size + t146.size ≤ 9223372036854775807) = true := decide_eq_true c16
               try have c16b2 : (9223372036854775807 < (((((x4_1 ++ (⟨#[32]⟩ : ByteArray)) ++ ((rd_T75 l0 x5_1).f0)) ++ (⟨#[58]⟩ : ByteArray)) ++ (rdOf ByteArray.empty y138 ((rd_T75 l0 x5_1).f1))) ++ (⟨#[58]⟩ : ByteArray)).size + t146.size) = False := eq_false (Nat.not_lt.2 c16)
               try have c16b3 := c16; try simp only [ByteArray.size_append, size_lit, List.size_toArray, List.length_cons, List.length_nil, Nat.zero_add, Nat.reduceAdd] at c16b3; try have c16b4 := eq_true c16b3; try have c16b5 := decide_eq_true c16b3; try have c16b6 := eq_false (Nat.not_lt.2 c16b3)
               try have c16b7 := c16b3; try simp at c16b7; try have c16b8 := eq_true c16b7; try have c16b9 := decide_eq_true c16b7; try have c16bA := eq_false (Nat.not_lt.2 c16b7)
               have H' := Aside0.mk H
               clear H
               have p141 : 0 ≤ (x5_1 : Int) := of_decide_eq_true u3_
               have q141 : x5_1 < (l0.length : Int) := of_decide_eq_true u3_
               obtain ⟨ad141, e141, hx141_0, hx141_1, hx141_2⟩ := at_T75 HR0.out x5_1 p141 q141
               cases e141
               replace hx141_0 := (HB.out.cell (World.block_lt_of_cell? w _ hx141_0)).trans hx141_0
               replace hx141_1 := (HB.out.cell (World.block_lt_of_cell? w _ hx141_1)).trans hx141_1
               replace hx141_2 := (HB.out.cell (World.block_lt_of_cell? w _ hx141_2)).trans hx141_2
               replace p141 := eq_true p141
               replace q141 := eq_true q141
               have p142 : 0 ≤ (x5_1 : Int) := of_decide_eq_true u3_
               have q142 : x5_1 < (l0.length : Int) := of_decide_eq_true u3_
               obtain ⟨ad142, e142, hx142_0, hx142_1, hx142_2⟩ := at_T75 HR0.out x5_1 p142 q142
               obtain rfl : ad141 = ad142 := (by injection e142)
               replace hx142_0 := (HB.out.cell (World.block_lt_of_cell? w _ hx142_0)).trans hx142_0
               replace hx142_1 := (HB.out.cell (World.block_lt_of_cell? w _ hx142_1)).trans hx142_1
               replace hx142_2 := (HB.out.cell (World.block_lt_of_cell? w _ hx142_2)).trans hx142_2
               replace p142 := eq_true p142
               replace q142 := eq_true q142
               obtain ⟨Ao17, co17, eo17⟩ := Kd.R_slice HO_3.out
               subst eo17
               have p143 : 0 ≤ (((rd_T75 l0 x5_1).f1) : Int) := of_decide_eq_true u3_
               have q143 : ((rd_T75 l0 x5_1).f1) < (y138.length : Int) := of_decide_eq_true u3_
               obtain ⟨ad143, e143, hx143_0⟩ := Kd.at_string (Kd.R_reads' HO_3.out).2.2 ((rd_T75 l0 x5_1).f1) p143 q143
               cases e143
               replace p143 := eq_true p143
               replace q143 := eq_true q143
               have p144 : 0 ≤ (x5_1 : Int) := of_decide_eq_true u3_
               have q144 : x5_1 < (l0.length : Int) := of_decide_eq_true u3_
               obtain ⟨ad144, e144, hx144_0, hx144_1, hx144_2⟩ := at_T75 HR0.out x5_1 p144 q144
               obtain rfl : ad141 = ad144 := (by injection e144)
               replace hx144_0 := (HB.out.cell (World.block_lt_of_cell? w _ hx144_0)).trans hx144_0
               replace hx144_1 := (HB.out.cell (World.block_lt_of_cell? w _ hx144_1)).trans hx144_1
               replace hx144_2 := (HB.out.cell (World.block_lt_of_cell? w _ hx144_2)).trans hx144_2
               replace p144 := eq_true p144
               replace q144 := eq_true q144
               have p145 : 0 ≤ (x5_1 : Int) := of_decide_eq_true u3_
               have q145 : x5_1 < (l0.length : Int) := of_decide_eq_true u3_
               obtain ⟨ad145, e145, hx145_0, hx145_1, hx145_2⟩ := at_T75 HR0.out x5_1 p145 q145
               obtain rfl : ad141 = ad145 := (by injection e145)
               replace hx145_0 := (HB.out.cell (World.block_lt_of_cell? w _ hx145_0)).trans hx145_0
               replace hx145_1 := (HB.out.cell (World.block_lt_of_cell? w _ hx145_1)).trans hx145_1
               replace hx145_2 := (HB.out.cell (World.block_lt_of_cell? w _ hx145_2)).trans hx145_2
               replace p145 := eq_true p145
               replace q145 := eq_true q145
               go_wp2_with (first | (go_at_call 76; (with_reducible refine (spec_l1Dec.calls k1 ((rd_T75 l0 x5_1).f2) t146 _ A15.out).mono ?_); rintro e w18 ⟨rfl, hb⟩; have n0_ := Aside0.mk (Kd.R_below u16_ hb); have n1_ := Aside0.mk (below_step u0_ hb); clear HO_3; clear HB; have HO_3 := n0_; have HB := n1_; clear n0_ n1_; (try clear hb); (try clear hb2); (try clear hk); (try clear hi)))
               repeat (go_quiet (first | (go_at_call 76; (with_reducible refine (spec_l1Dec.calls k1 ((rd_T75 l0 x5_1).f2) t146 _ A15.out).mono ?_); rintro e w18 ⟨rfl, hb⟩; have n0_ := Aside0.mk (Kd.R_below u16_ hb); have n1_ := Aside0.mk (below_step u0_ hb); clear HO_3; clear HB; have HO_3 := n0_; have HB := n1_; clear n0_ n1_; (try clear hb); (try clear hb2); (try clear hk); (try clear hi))); try go_wp2_with (first | (go_at_call 76; (with_reducible refine (spec_l1Dec.calls k1 ((rd_T75 l0 x5_1).f2) t146 _ A15.out).mono ?_); rintro e w18 ⟨rfl, hb⟩; have n0_ := Aside0.mk (Kd.R_below u16_ hb); have n1_ := Aside0.mk (below_step u0_ hb); clear HO_3; clear HB; have HO_3 := n0_; have HB := n1_; clear n0_ n1_; (try clear hb); (try clear hb2); (try clear hk); (try clear hi))))
               go_roundg k1
               case measure => have := HK1.out; omega
               case rel => exact ⟨((((((x4_1 ++ (⟨#[32]⟩ : ByteArray)) ++ ((rd_T75 l0 x5_1).f0)) ++ (⟨#[58]⟩ : ByteArray)) ++ (rdOf ByteArray.empty y138 ((rd_T75 l0 x5_1).f1))) ++ (⟨#[58]⟩ : ByteArray)) ++ t146), (wrap64 (x5_1 + 1)), u10_, u10_, H', ⟨u48_⟩, ⟨u16_⟩, ⟨u0_⟩⟩
              ·rw [if_neg c16] at H
               exact absurd H u43_
             ·rw [if_neg c14] at H
              exact absurd H u43_
            ·rw [if_neg c13] at H
             have c13b0 : (((rd_T75 l0 x5_1).f1) == 1) = false := beq_eq_false_iff_ne.mpr c13
             have c13b1 : (((rd_T75 l0 x5_1).f1) != 1) = true := bne_iff_ne.mpr c13
             have H' := Aside0.mk H
             clear H
             have p141 : 0 ≤ (x5_1 : Int) := of_decide_eq_true u3_
             have q141 : x5_1 < (l0.length : Int) := of_decide_eq_true u3_
             obtain ⟨ad141, e141, hx141_0, hx141_1, hx141_2⟩ := at_T75 HR0.out x5_1 p141 q141
             cases e141
             replace hx141_0 := (HB.out.cell (World.block_lt_of_cell? w _ hx141_0)).trans hx141_0
             replace hx141_1 := (HB.out.cell (World.block_lt_of_cell? w _ hx141_1)).trans hx141_1
             replace hx141_2 := (HB.out.cell (World.block_lt_of_cell? w _ hx141_2)).trans hx141_2
             replace p141 := eq_true p141
             replace q141 := eq_true q141
             have p142 : 0 ≤ (x5_1 : Int) := of_decide_eq_true u3_
             have q142 : x5_1 < (l0.length : Int) := of_decide_eq_true u3_
             obtain ⟨ad142, e142, hx142_0, hx142_1, hx142_2⟩ := at_T75 HR0.out x5_1 p142 q142
             obtain rfl : ad141 = ad142 := (by injection e142)
             replace hx142_0 := (HB.out.cell (World.block_lt_of_cell? w _ hx142_0)).trans hx142_0
             replace hx142_1 := (HB.out.cell (World.block_lt_of_cell? w _ hx142_1)).trans hx142_1
             replace hx142_2 := (HB.out.cell (World.block_lt_of_cell? w _ hx142_2)).trans hx142_2
             replace p142 := eq_true p142
             replace q142 := eq_true q142
             obtain ⟨Ao19, co19, eo19⟩ := Kd.R_slice HO_3.out
             subst eo19
             have p143 : 0 ≤ (((rd_T75 l0 x5_1).f1) : Int) := of_decide_eq_true u3_
             have q143 : ((rd_T75 l0 x5_1).f1) < (y138.length : Int) := of_decide_eq_true u3_
             obtain ⟨ad143, e143, hx143_0⟩ := Kd.at_string (Kd.R_reads' HO_3.out).2.2 ((rd_T75 l0 x5_1).f1) p143 q143
             cases e143
             replace p143 := eq_true p143
             replace q143 := eq_true q143
             have p144 : 0 ≤ (x5_1 : Int) := of_decide_eq_true u3_
             have q144 : x5_1 < (l0.length : Int) := of_decide_eq_true u3_
             obtain ⟨ad144, e144, hx144_0, hx144_1, hx144_2⟩ := at_T75 HR0.out x5_1 p144 q144
             obtain rfl : ad141 = ad144 := (by injection e144)
             replace hx144_0 := (HB.out.cell (World.block_lt_of_cell? w _ hx144_0)).trans hx144_0
             replace hx144_1 := (HB.out.cell (World.block_lt_of_cell? w _ hx144_1)).trans hx144_1
             replace hx144_2 := (HB.out.cell (World.block_lt_of_cell? w _ hx144_2)).trans hx144_2
             replace p144 := eq_true p144
             replace q144 := eq_true q144
             go_wp2
             repeat (go_quiet (fail); try go_wp2)
             go_roundg k1
             case measure => have := HK1.out; omega
             case rel => exact ⟨((((x4_1 ++ (⟨#[32]⟩ : ByteArray)) ++ ((rd_T75 l0 x5_1).f0)) ++ (⟨#[58]⟩ : ByteArray)) ++ (rdOf ByteArray.empty y138 ((rd_T75 l0 x5_1).f1))), (wrap64 (x5_1 + 1)), u10_, u10_, H', ⟨u48_⟩, ⟨u16_⟩, ⟨u0_⟩⟩
           ·rw [if_neg c12] at H
            exact absurd H u43_
          ·rw [if_neg c11] at H
           exact absurd H u43_
         ·rw [if_neg c10] at H
          exact absurd H u43_
        ·rw [if_neg c9] at H
         exact absurd H u43_
       ·rw [if_neg c8] at H
        exact absurd H u43_
      ·rw [if_neg c7] at H
       exact absurd H u43_
     ·rw [if_neg c6] at H
      exact absurd H u43_
    ·rw [if_neg c5] at H
     have c5b0 : decide (0 < x5_1) = false := decide_eq_false c5
     clear c5
     by_cases c20 : 0 ≤ x5_1
     ·rw [if_pos c20] at H
      have c20b0 : decide (0 ≤ x5_1) = true := decide_eq_true c20
      clear c20
      by_cases c21 : x4_1.size + ((rd_T75 l0 x5_1).f0).size ≤ 9223372036854775807
      ·rw [if_pos c21] at H
       have c21b0 := eq_true c21
       have c21b1 : decide (x4_1.size + ((rd_T75 l0 x5_1).f0).size ≤ 9223372036854775807) = true := decide_eq_true c21
       try have c21b2 : (9223372036854775807 < x4_1.size + ((rd_T75 l0 x5_1).f0).size) = False := eq_false (Nat.not_lt.2 c21)
       by_cases c22 : (x4_1 ++ ((rd_T75 l0 x5_1).f0)).size + 1 ≤ 9223372036854775807
       ·rw [if_pos c22] at H
        have c22b0 := eq_true c22
        have c22b1 : decide ((x4_1 ++ ((rd_T75 l0 x5_1).f0)).size + 1 ≤ 9223372036854775807) = true := decide_eq_true c22
        try have c22b2 : (9223372036854775807 < (x4_1 ++ ((rd_T75 l0 x5_1).f0)).size + 1) = False := eq_false (Nat.not_lt.2 c22)
        try have c22b3 := c22; try simp only [ByteArray.size_append, size_lit, List.size_toArray, List.length_cons, List.length_nil, Nat.zero_add, Nat.reduceAdd] at c22b3; try have c22b4 := eq_true c22b3; try have c22b5 := decide_eq_true c22b3; try have c22b6 := eq_false (Nat.not_lt.2 c22b3)
        try have c22b7 := c22b3; try simp at c22b7; try have c22b8 := eq_true c22b7; try have c22b9 := decide_eq_true c22b7; try have c22bA := eq_false (Nat.not_lt.2 c22b7)
        by_cases c23 : 0 ≤ ((rd_T75 l0 x5_1).f1)
        ·rw [if_pos c23] at H
         have c23b0 : decide (0 ≤ ((rd_T75 l0 x5_1).f1)) = true := decide_eq_true c23
         clear c23
         by_cases c24 : ((rd_T75 l0 x5_1).f1) < (y138.length : Int)
         ·rw [if_pos c24] at H
          have c24b0 : decide (((rd_T75 l0 x5_1).f1) < (y138.length : Int)) = true := decide_eq_true c24
          clear c24
          by_cases c25 : ((x4_1 ++ ((rd_T75 l0 x5_1).f0)) ++ (⟨#[58]⟩ : ByteArray)).size + (rdOf ByteArray.empty y138 ((rd_T75 l0 x5_1).f1)).size ≤ 9223372036854775807
          ·rw [if_pos c25] at H
           have c25b0 := eq_true c25
           have c25b1 : decide (((x4_1 ++ ((rd_T75 l0 x5_1).f0)) ++ (⟨#[58]⟩ : ByteArray)).size + (rdOf ByteArray.empty y138 ((rd_T75 l0 x5_1).f1)).size ≤ 9223372036854775807) = true := decide_eq_true c25
           try have c25b2 : (9223372036854775807 < ((x4_1 ++ ((rd_T75 l0 x5_1).f0)) ++ (⟨#[58]⟩ : ByteArray)).size + (rdOf ByteArray.empty y138 ((rd_T75 l0 x5_1).f1)).size) = False := eq_false (Nat.not_lt.2 c25)
           try have c25b3 := c25; try simp only [ByteArray.size_append, size_lit, List.size_toArray, List.length_cons, List.length_nil, Nat.zero_add, Nat.reduceAdd] at c25b3; try have c25b4 := eq_true c25b3; try have c25b5 := decide_eq_true c25b3; try have c25b6 := eq_false (Nat.not_lt.2 c25b3)
           try have c25b7 := c25b3; try simp at c25b7; try have c25b8 := eq_true c25b7; try have c25b9 := decide_eq_true c25b7; try have c25bA := eq_false (Nat.not_lt.2 c25b7)
           by_cases c26 : ((rd_T75 l0 x5_1).f1) = 1
           ·rw [if_pos c26] at H
            have c26b0 : (((rd_T75 l0 x5_1).f1) == 1) = true := beq_iff_eq.mpr c26
            have c26b1 : (((rd_T75 l0 x5_1).f1) != 1) = false := bne_eq_false_iff_eq.mpr c26
            clear c26
            by_cases c27 : (((x4_1 ++ ((rd_T75 l0 x5_1).f0)) ++ (⟨#[58]⟩ : ByteArray)) ++ (rdOf ByteArray.empty y138 ((rd_T75 l0 x5_1).f1))).size + 1 ≤ 9223372036854775807
            ·rw [if_pos c27] at H
             have c27b0 := eq_true c27
             have c27b1 : decide ((((x4_1 ++ ((rd_T75 l0 x5_1).f0)) ++ (⟨#[58]⟩ : ByteArray)) ++ (rdOf ByteArray.empty y138 ((rd_T75 l0 x5_1).f1))).size + 1 ≤ 9223372036854775807) = true := decide_eq_true c27
             try have c27b2 : (9223372036854775807 < (((x4_1 ++ ((rd_T75 l0 x5_1).f0)) ++ (⟨#[58]⟩ : ByteArray)) ++ (rdOf ByteArray.empty y138 ((rd_T75 l0 x5_1).f1))).size + 1) = False := eq_false (Nat.not_lt.2 c27)
             try have c27b3 := c27; try simp only [ByteArray.size_append, size_lit, List.size_toArray, List.length_cons, List.length_nil, Nat.zero_add, Nat.reduceAdd] at c27b3; try have c27b4 := eq_true c27b3; try have c27b5 := decide_eq_true c27b3; try have c27b6 := eq_false (Nat.not_lt.2 c27b3)
             try have c27b7 := c27b3; try simp at c27b7; try have c27b8 := eq_true c27b7; try have c27b9 := decide_eq_true c27b7; try have c27bA := eq_false (Nat.not_lt.2 c27b7)
             replace H := Option.bind_eq_some_iff.mp H
             obtain ⟨t152, A280, H⟩ := H
             replace H : (if ((((x4_1 ++ ((rd_T75 l0 x5_1).f0)) ++ (⟨#[58]⟩ : ByteArray)) ++ (rdOf ByteArray.empty y138 ((rd_T75 l0 x5_1).f1))) ++ (⟨#[58]⟩ : ByteArray)).size + t152.size ≤ 9223372036854775807 then (spec_l2Put.l0 k1 l0 y138 (((((x4_1 ++ ((rd_T75 l0 x5_1).f0)) ++ (⟨#[58]⟩ : ByteArray)) ++ (rdOf ByteArray.empty y138 ((rd_T75 l0 x5_1).f1))) ++ (⟨#[58]⟩ : ByteArray)) ++ t152) (wrap64 (x5_1 + 1))) else (none)) = some r := H
             have A28 := Aside0.mk A280
             clear A280
             by_cases c29 : ((((x4_1 ++ ((rd_T75 l0 x5_1).f0)) ++ (⟨#[58]⟩ : ByteArray)) ++ (rdOf ByteArray.empty y138 ((rd_T75 l0 x5_1).f1))) ++ (⟨#[58]⟩ : ByteArray)).size + t152.size ≤ 9223372036854775807
             ·rw [if_pos c29] at H
              have c29b0 := eq_true c29
              have c29b1 : decide (((((x4_1 ++ ((rd_T75 l0 x5_1).f0)) ++ (⟨#[58]⟩ : ByteArray)) ++ (rdOf ByteArray.empty y138 ((rd_T75 l0 x5_1).f1))) ++ (⟨#[58]⟩ : ByteArray)).size + t152.size ≤ 9223372036854775807) = true := decide_eq_true c29
              try have c29b2 : (9223372036854775807 < ((((x4_1 ++ ((rd_T75 l0 x5_1).f0)) ++ (⟨#[58]⟩ : ByteArray)) ++ (rdOf ByteArray.empty y138 ((rd_T75 l0 x5_1).f1))) ++ (⟨#[58]⟩ : ByteArray)).size + t152.size) = False := eq_false (Nat.not_lt.2 c29)
              try have c29b3 := c29; try simp only [ByteArray.size_append, size_lit, List.size_toArray, List.length_cons, List.length_nil, Nat.zero_add, Nat.reduceAdd] at c29b3; try have c29b4 := eq_true c29b3; try have c29b5 := decide_eq_true c29b3; try have c29b6 := eq_false (Nat.not_lt.2 c29b3)
              try have c29b7 := c29b3; try simp at c29b7; try have c29b8 := eq_true c29b7; try have c29b9 := decide_eq_true c29b7; try have c29bA := eq_false (Nat.not_lt.2 c29b7)
              have H' := Aside0.mk H
              clear H
              have p147 : 0 ≤ (x5_1 : Int) := of_decide_eq_true u3_
              have q147 : x5_1 < (l0.length : Int) := of_decide_eq_true u3_
              obtain ⟨ad147, e147, hx147_0, hx147_1, hx147_2⟩ := at_T75 HR0.out x5_1 p147 q147
              cases e147
              replace hx147_0 := (HB.out.cell (World.block_lt_of_cell? w _ hx147_0)).trans hx147_0
              replace hx147_1 := (HB.out.cell (World.block_lt_of_cell? w _ hx147_1)).trans hx147_1
              replace hx147_2 := (HB.out.cell (World.block_lt_of_cell? w _ hx147_2)).trans hx147_2
              replace p147 := eq_true p147
              replace q147 := eq_true q147
              have p148 : 0 ≤ (x5_1 : Int) := of_decide_eq_true u3_
              have q148 : x5_1 < (l0.length : Int) := of_decide_eq_true u3_
              obtain ⟨ad148, e148, hx148_0, hx148_1, hx148_2⟩ := at_T75 HR0.out x5_1 p148 q148
              obtain rfl : ad147 = ad148 := (by injection e148)
              replace hx148_0 := (HB.out.cell (World.block_lt_of_cell? w _ hx148_0)).trans hx148_0
              replace hx148_1 := (HB.out.cell (World.block_lt_of_cell? w _ hx148_1)).trans hx148_1
              replace hx148_2 := (HB.out.cell (World.block_lt_of_cell? w _ hx148_2)).trans hx148_2
              replace p148 := eq_true p148
              replace q148 := eq_true q148
              obtain ⟨Ao30, co30, eo30⟩ := Kd.R_slice HO_3.out
              subst eo30
              have p149 : 0 ≤ (((rd_T75 l0 x5_1).f1) : Int) := of_decide_eq_true u3_
              have q149 : ((rd_T75 l0 x5_1).f1) < (y138.length : Int) := of_decide_eq_true u3_
              obtain ⟨ad149, e149, hx149_0⟩ := Kd.at_string (Kd.R_reads' HO_3.out).2.2 ((rd_T75 l0 x5_1).f1) p149 q149
              cases e149
              replace p149 := eq_true p149
              replace q149 := eq_true q149
              have p150 : 0 ≤ (x5_1 : Int) := of_decide_eq_true u3_
              have q150 : x5_1 < (l0.length : Int) := of_decide_eq_true u3_
              obtain ⟨ad150, e150, hx150_0, hx150_1, hx150_2⟩ := at_T75 HR0.out x5_1 p150 q150
              obtain rfl : ad147 = ad150 := (by injection e150)
              replace hx150_0 := (HB.out.cell (World.block_lt_of_cell? w _ hx150_0)).trans hx150_0
              replace hx150_1 := (HB.out.cell (World.block_lt_of_cell? w _ hx150_1)).trans hx150_1
              replace hx150_2 := (HB.out.cell (World.block_lt_of_cell? w _ hx150_2)).trans hx150_2
              replace p150 := eq_true p150
              replace q150 := eq_true q150
              have p151 : 0 ≤ (x5_1 : Int) := of_decide_eq_true u3_
              have q151 : x5_1 < (l0.length : Int) := of_decide_eq_true u3_
              obtain ⟨ad151, e151, hx151_0, hx151_1, hx151_2⟩ := at_T75 HR0.out x5_1 p151 q151
              obtain rfl : ad147 = ad151 := (by injection e151)
              replace hx151_0 := (HB.out.cell (World.block_lt_of_cell? w _ hx151_0)).trans hx151_0
              replace hx151_1 := (HB.out.cell (World.block_lt_of_cell? w _ hx151_1)).trans hx151_1
              replace hx151_2 := (HB.out.cell (World.block_lt_of_cell? w _ hx151_2)).trans hx151_2
              replace p151 := eq_true p151
              replace q151 := eq_true q151
              go_wp2_with (first | (go_at_call 76; (with_reducible refine (spec_l1Dec.calls k1 ((rd_T75 l0 x5_1).f2) t152 _ A28.out).mono ?_); rintro e w31 ⟨rfl, hb⟩; have n0_ := Aside0.mk (Kd.R_below u16_ hb); have n1_ := Aside0.mk (below_step u0_ hb); clear HO_3; clear HB; have HO_3 := n0_; have HB := n1_; clear n0_ n1_; (try clear hb); (try clear hb2); (try clear hk); (try clear hi)))
              repeat (go_quiet (first | (go_at_call 76; (with_reducible refine (spec_l1Dec.calls k1 ((rd_T75 l0 x5_1).f2) t152 _ A28.out).mono ?_); rintro e w31 ⟨rfl, hb⟩; have n0_ := Aside0.mk (Kd.R_below u16_ hb); have n1_ := Aside0.mk (below_step u0_ hb); clear HO_3; clear HB; have HO_3 := n0_; have HB := n1_; clear n0_ n1_; (try clear hb); (try clear hb2); (try clear hk); (try clear hi))); try go_wp2_with (first | (go_at_call 76; (with_reducible refine (spec_l1Dec.calls k1 ((rd_T75 l0 x5_1).f2) t152 _ A28.out).mono ?_); rintro e w31 ⟨rfl, hb⟩; have n0_ := Aside0.mk (Kd.R_below u16_ hb); have n1_ := Aside0.mk (below_step u0_ hb); clear HO_3; clear HB; have HO_3 := n0_; have HB := n1_; clear n0_ n1_; (try clear hb); (try clear hb2); (try clear hk); (try clear hi))))
              go_roundg k1
              case measure => have := HK1.out; omega
              case rel => exact ⟨(((((x4_1 ++ ((rd_T75 l0 x5_1).f0)) ++ (⟨#[58]⟩ : ByteArray)) ++ (rdOf ByteArray.empty y138 ((rd_T75 l0 x5_1).f1))) ++ (⟨#[58]⟩ : ByteArray)) ++ t152), (wrap64 (x5_1 + 1)), u10_, u10_, H', ⟨u48_⟩, ⟨u16_⟩, ⟨u0_⟩⟩
             ·rw [if_neg c29] at H
              exact absurd H u43_
            ·rw [if_neg c27] at H
             exact absurd H u43_
           ·rw [if_neg c26] at H
            have c26b0 : (((rd_T75 l0 x5_1).f1) == 1) = false := beq_eq_false_iff_ne.mpr c26
            have c26b1 : (((rd_T75 l0 x5_1).f1) != 1) = true := bne_iff_ne.mpr c26
            have H' := Aside0.mk H
            clear H
            have p147 : 0 ≤ (x5_1 : Int) := of_decide_eq_true u3_
            have q147 : x5_1 < (l0.length : Int) := of_decide_eq_true u3_
            obtain ⟨ad147, e147, hx147_0, hx147_1, hx147_2⟩ := at_T75 HR0.out x5_1 p147 q147
            cases e147
            replace hx147_0 := (HB.out.cell (World.block_lt_of_cell? w _ hx147_0)).trans hx147_0
            replace hx147_1 := (HB.out.cell (World.block_lt_of_cell? w _ hx147_1)).trans hx147_1
            replace hx147_2 := (HB.out.cell (World.block_lt_of_cell? w _ hx147_2)).trans hx147_2
            replace p147 := eq_true p147
            replace q147 := eq_true q147
            have p148 : 0 ≤ (x5_1 : Int) := of_decide_eq_true u3_
            have q148 : x5_1 < (l0.length : Int) := of_decide_eq_true u3_
            obtain ⟨ad148, e148, hx148_0, hx148_1, hx148_2⟩ := at_T75 HR0.out x5_1 p148 q148
            obtain rfl : ad147 = ad148 := (by injection e148)
            replace hx148_0 := (HB.out.cell (World.block_lt_of_cell? w _ hx148_0)).trans hx148_0
            replace hx148_1 := (HB.out.cell (World.block_lt_of_cell? w _ hx148_1)).trans hx148_1
            replace hx148_2 := (HB.out.cell (World.block_lt_of_cell? w _ hx148_2)).trans hx148_2
            replace p148 := eq_true p148
            replace q148 := eq_true q148
            obtain ⟨Ao32, co32, eo32⟩ := Kd.R_slice HO_3.out
            subst eo32
            have p149 : 0 ≤ (((rd_T75 l0 x5_1).f1) : Int) := of_decide_eq_true u3_
            have q149 : ((rd_T75 l0 x5_1).f1) < (y138.length : Int) := of_decide_eq_true u3_
            obtain ⟨ad149, e149, hx149_0⟩ := Kd.at_string (Kd.R_reads' HO_3.out).2.2 ((rd_T75 l0 x5_1).f1) p149 q149
            cases e149
            replace p149 := eq_true p149
            replace q149 := eq_true q149
            have p150 : 0 ≤ (x5_1 : Int) := of_decide_eq_true u3_
            have q150 : x5_1 < (l0.length : Int) := of_decide_eq_true u3_
            obtain ⟨ad150, e150, hx150_0, hx150_1, hx150_2⟩ := at_T75 HR0.out x5_1 p150 q150
            obtain rfl : ad147 = ad150 := (by injection e150)
            replace hx150_0 := (HB.out.cell (World.block_lt_of_cell? w _ hx150_0)).trans hx150_0
            replace hx150_1 := (HB.out.cell (World.block_lt_of_cell? w _ hx150_1)).trans hx150_1
            replace hx150_2 := (HB.out.cell (World.block_lt_of_cell? w _ hx150_2)).trans hx150_2
            replace p150 := eq_true p150
            replace q150 := eq_true q150
            go_wp2
            repeat (go_quiet (fail); try go_wp2)
            go_roundg k1
            case measure => have := HK1.out; omega
            case rel => exact ⟨(((x4_1 ++ ((rd_T75 l0 x5_1).f0)) ++ (⟨#[58]⟩ : ByteArray)) ++ (rdOf ByteArray.empty y138 ((rd_T75 l0 x5_1).f1))), (wrap64 (x5_1 + 1)), u10_, u10_, H', ⟨u48_⟩, ⟨u16_⟩, ⟨u0_⟩⟩
          ·rw [if_neg c25] at H
           exact absurd H u43_
         ·rw [if_neg c24] at H
          exact absurd H u43_
        ·rw [if_neg c23] at H
         exact absurd H u43_
       ·rw [if_neg c22] at H
        exact absurd H u43_
      ·rw [if_neg c21] at H
       exact absurd H u43_
     ·rw [if_neg c20] at H
      exact absurd H u43_
   ·rw [if_neg c4] at H
    have c4b0 : decide (x5_1 < (l0.length : Int)) = false := decide_eq_false c4
    clear c4
    obtain rfl := Option.some.inj H
    go_wp2
    repeat (go_quiet (fail); try go_wp2)
    go_ret
    exact ⟨u4_, u0_⟩

/-! ### spec_FieldsGet: function 20 -/
def spec_FieldsGet.l0 : Nat → ByteArray → List (S75) → List ByteArray → Int → Option ((List (S75)) × Bool)
 | 0, _, _, _, _ => none
 | k + 1, x0, x4, x5, x6 => if x6 < (x5.length : Int) then (if 0 ≤ x6 then ((spec_l2Get.f k (rdOf ByteArray.empty x5 x6)).bind fun bt160 => (if x4.length < 4398046511104 then (spec_FieldsGet.l0 k x0 (x4 ++ [(⟨bt160.1, bt160.2.1, bt160.2.2⟩ : S75)]) x5 (wrap64 (x6 + 1))) else (none))) else (none)) else ((spec_FieldsOk.f k x4).bind fun t166 => (if t166 = true then ((spec_l2Put.f k x4).bind fun t167 => (if t167.toList = x0.toList then (some (x4, true)) else (some ((([] : List (S75))), false)))) else (some ((([] : List (S75))), false))))
def spec_FieldsGet.f (k : Nat) (a0 : ByteArray) : Option ((List (S75)) × Bool) := (spec_l1Cut.f k a0 32 4).bind fun t156 => (spec_FieldsGet.l0 k a0 (([] : List (S75))) t156 0)
theorem spec_FieldsGet.mono_l : ∀ k, (∀ y0 y1 y2 y3, LeO (spec_FieldsGet.l0 k y0 y1 y2 y3) (spec_FieldsGet.l0 (k + 1) y0 y1 y2 y3))
 | 0 => fun _ _ _ _ r h => by simp [spec_FieldsGet.l0] at h
 | k + 1 => by
  have ih0 := spec_FieldsGet.mono_l k
  ·intro y0 y1 y2 y3
   unfold spec_FieldsGet.l0
   repeat' first
   | (with_reducible exact ih0 _ _ _ _)
   | (with_reducible exact spec_FieldsOk.mono _ _)
   | (with_reducible exact spec_l1Cut.mono _ _ _ _)
   | (with_reducible exact spec_l2Get.mono _ _)
   | (with_reducible exact spec_l2Put.mono _ _)
   | (with_reducible exact LeO.refl _)
   | (with_reducible exact LeO.none _)
   | (with_reducible refine LeO.ite ?_ ?_)
   | (with_reducible refine LeO.bind ?_ (fun _ => ?_))
   | exact ih0 _ _ _ _
   | exact spec_FieldsOk.mono _ _
   | exact spec_l1Cut.mono _ _ _ _
   | exact spec_l2Get.mono _ _
   | exact spec_l2Put.mono _ _
   | exact LeO.none _
   | refine LeO.ite ?_ ?_
   | refine LeO.bind ?_ (fun _ => ?_)
theorem spec_FieldsGet.mono : ∀ a0 k, LeO (spec_FieldsGet.f k a0) (spec_FieldsGet.f (k + 1) a0) := by
 intro a0 k
 have ih0 := spec_FieldsGet.mono_l k
 unfold spec_FieldsGet.f
 repeat' first
   | (with_reducible exact ih0 _ _ _ _)
   | (with_reducible exact spec_FieldsOk.mono _ _)
   | (with_reducible exact spec_l1Cut.mono _ _ _ _)
   | (with_reducible exact spec_l2Get.mono _ _)
   | (with_reducible exact spec_l2Put.mono _ _)
   | (with_reducible exact LeO.refl _)
   | (with_reducible exact LeO.none _)
   | (with_reducible refine LeO.ite ?_ ?_)
   | (with_reducible refine LeO.bind ?_ (fun _ => ?_))
   | exact ih0 _ _ _ _
   | exact spec_FieldsOk.mono _ _
   | exact spec_l1Cut.mono _ _ _ _
   | exact spec_l2Get.mono _ _
   | exact spec_l2Put.mono _ _
   | exact LeO.none _
   | refine LeO.ite ?_ ?_
   | refine LeO.bind ?_ (fun _ => ?_)
set_option maxHeartbeats 8000000 in
set_option maxRecDepth 100000 in
theorem spec_FieldsGet.calls (k : Nat) (a0 : ByteArray) (r1 : List (S75)) (r2 : Bool) (w : World) (h : spec_FieldsGet.f k a0 = some (r1, r2)) :
  Calls Tryd.prog 20 #[.string a0] w fun e w' => ∃ v0_ : Value, e = .returned (.tuple #[v0_, .bool r2]) ∧ Kd.R k75 75 w' w.heap.size (fun _ => True) v0_ r1 ∧ Below w.heap.size w w' := by
 have HB := Aside0.mk (Below.refl w.heap.size w)
 have H : ((spec_l1Cut.f k a0 32 4).bind fun t156 => (spec_FieldsGet.l0 k a0 (([] : List (S75))) t156 0)) = some (r1, r2) := h
 clear h
 obtain ⟨y153, hy153⟩ : ∃ y_ : List (S75), y_ = (([] : List (S75))) := ⟨_, rfl⟩
 replace H : ((spec_l1Cut.f k a0 32 4).bind fun t156 => (spec_FieldsGet.l0 k a0 y153 t156 0)) = some (r1, r2) := by first | (rw [hy153]; with_reducible exact H) | (have H2_ := (Option.bind_some _ _).symm.trans H; rw [hy153]; with_reducible exact H2_) | (have H2_ := (Option.bind_some _ _).symm.trans H; with_reducible exact H2_) | with_reducible exact H | (rw [hy153]; exact H) | exact H
 have Ny153 := Aside0.mk hy153
 clear hy153
 replace H := Option.bind_eq_some_iff.mp H
 obtain ⟨t156, A20, H⟩ := H
 replace H : (spec_FieldsGet.l0 k a0 y153 t156 0) = some (r1, r2) := H
 have A2 := Aside0.mk A20
 clear A20
 have H' := Aside0.mk H
 clear H
 go_enter Tryd.func20, Tryd.ntmps20
 go_wp2_with (first | ((with_reducible refine gate_dst (N := 7) rfl ?_); refine Kd.R_lit k75 _ 75 ?hg (N := 7) ?hd (xs := ([] : List (S75))) (inner := []) (ok := fun _ => True) (okp := fun _ => True) ?hr ?hp (fun _ hk => hk) trivial (Below.refl _ _) (Nat.le_refl _) u43_ ?_; (case hd => rfl); (case hg => rfl); (case hr => first | (go_simp; done) | (go_simp; rfl)); (case hp => exact (Reps.none _ _)); intro v154 w3 ho4 hb hg_ hnew_; clear hg_ hnew_; (first | rw [← Ny153.out] at ho4 | (simp only [Int.reduceToNat] at ho4; rw [← Ny153.out] at ho4)); have n0_ := Aside0.mk (Kd.R_lower ho4 (below_size u0_)); have n1_ := Aside0.mk (below_step u0_ hb); clear HB; have HO155 := n0_; have HB := n1_; clear n0_ n1_; clear hb ho4) | ((with_reducible refine gate_callee (f := 40) rfl ?_); refine goesL_ (some 9) rfl rfl Tryd.func40 u20_ rfl #[.string a0, .int .u8 32, .int .i64 4] rfl u1_ ?_; (with_reducible refine (spec_l1Cut.calls k a0 32 4 t156 _ A2.out).mono ?_); rintro e w5 ⟨v157, rfl, ho0, hb⟩; refine ⟨_, rfl, ?_⟩; have n0_ := Aside0.mk (Kd.R_below (by (with_reducible repeat (first | apply Kd.R_alloc | apply Kd.R_drewN | apply Kd.R_drew)); exact HO155.out) hb); have n1_ := Aside0.mk (Kd.R_lower ho0 (below_size u0_)); have n2_ := Aside0.mk (below_step u0_ hb); clear HO155; clear HB; have HO155 := n0_; have HO158 := n1_; have HB := n2_; clear n0_ n1_ n2_; (try clear hb); (try clear hb2); (try clear hk); (try clear hi); (try clear ho0)))
 go_loopg [4, 6] k (fun kq v4 v6 w' => ∃ (x4_1 : List (S75)) (x6_1 : Int), v6 = .int .i64 x6_1 ∧ Aside0 (spec_FieldsGet.l0 kq a0 x4_1 t156 x6_1 = some (r1, r2)) ∧ Aside0 (kq ≤ k) ∧ Aside0 (Kd.R k75 75 w' w.heap.size (fun _ => True) v4 x4_1) ∧ Aside0 (Kd.R Kd.string 9 w' w.heap.size (fun _ => True) v157 t156) ∧ Aside0 (Below w.heap.size w w'))
 case atStart => exact ⟨(y153), (0), u10_, H', ⟨Nat.le_refl _⟩, ⟨by (with_reducible repeat (first | apply Kd.R_alloc | apply Kd.R_drewN | apply Kd.R_drew)); exact HO155.out⟩, ⟨by (with_reducible repeat (first | apply Kd.R_alloc | apply Kd.R_drewN | apply Kd.R_drew)); exact HO158.out⟩, ⟨u0_⟩⟩
 case round =>
  clear H'
  try clear c2
  try clear p2
  try clear c4
  obtain ⟨x4_1, x6_1, rfl, HA, HK1, HO_4, HO_5, HB⟩ := hrel
  cases gk with
  | zero => exact absurd HA.out (by simp [spec_FieldsGet.l0])
  | succ k1 =>
   have H := HA.out
   clear HA
   simp only [spec_FieldsGet.l0] at H
   by_cases c6 : x6_1 < (t156.length : Int)
   ·rw [if_pos c6] at H
    have c6b0 : decide (x6_1 < (t156.length : Int)) = true := decide_eq_true c6
    clear c6
    by_cases c7 : 0 ≤ x6_1
    ·rw [if_pos c7] at H
     have c7b0 : decide (0 ≤ x6_1) = true := decide_eq_true c7
     clear c7
     replace H := Option.bind_eq_some_iff.mp H
     obtain ⟨⟨t160, t161, t162⟩, A80, H⟩ := H
     replace H : (if x4_1.length < 4398046511104 then (spec_FieldsGet.l0 k1 a0 (x4_1 ++ [(⟨t160, t161, t162⟩ : S75)]) t156 (wrap64 (x6_1 + 1))) else (none)) = some (r1, r2) := H
     have A8 := Aside0.mk A80
     clear A80
     by_cases c9 : x4_1.length < 4398046511104
     ·rw [if_pos c9] at H
      have LMc9 := Aside0.mk c9
      clear c9
      obtain ⟨y163, hy163⟩ : ∃ y_ : List (S75), y_ = (x4_1 ++ [(⟨t160, t161, t162⟩ : S75)]) := ⟨_, rfl⟩
      replace H : (spec_FieldsGet.l0 k1 a0 y163 t156 (wrap64 (x6_1 + 1))) = some (r1, r2) := by first | (rw [hy163]; with_reducible exact H) | (have H2_ := (Option.bind_some _ _).symm.trans H; rw [hy163]; with_reducible exact H2_) | (have H2_ := (Option.bind_some _ _).symm.trans H; with_reducible exact H2_) | with_reducible exact H | (rw [hy163]; exact H) | exact H
      have Ny163 := Aside0.mk hy163
      clear hy163
      have H' := Aside0.mk H
      clear H
      obtain ⟨Ao10, co10, eo10⟩ := Kd.R_slice HO_5.out
      subst eo10
      have p159 : 0 ≤ (x6_1 : Int) := of_decide_eq_true u3_
      have q159 : x6_1 < (t156.length : Int) := of_decide_eq_true u3_
      obtain ⟨ad159, e159, hx159_0⟩ := Kd.at_string (Kd.R_reads' HO_5.out).2.2 x6_1 p159 q159
      cases e159
      replace p159 := eq_true p159
      replace q159 := eq_true q159
      go_wp2_with (first | ((with_reducible refine gate_callee (f := 53) rfl ?_); refine goesL_ (some 21) rfl rfl Tryd.func53 u20_ rfl #[.string (rdOf ByteArray.empty t156 x6_1)] rfl u1_ ?_; (with_reducible refine (spec_l2Get.calls k1 (rdOf ByteArray.empty t156 x6_1) t160 t161 t162 _ A8.out).mono ?_); rintro e w11 ⟨rfl, hb⟩; refine ⟨_, rfl, ?_⟩; have n0_ := Aside0.mk (Kd.R_below u7_ hb); have n1_ := Aside0.mk (Kd.R_below u28_ hb); have n2_ := Aside0.mk (below_step u0_ hb); clear HO_4; clear HO_5; clear HB; have HO_4 := n0_; have HO_5 := n1_; have HB := n2_; clear n0_ n1_ n2_; (try clear hb); (try clear hb2); (try clear hk); (try clear hi)) | ((with_reducible refine gate_builtin (b := .append) (xs := #[.tmp 16, .tmp 22]) rfl ?_); at_builtin; refine Kd.R_append k75 (w0 := w) w.heap.size rfl (.tmp 16) (.tmp 22) 34 75 (.agg #[(.string ⟨#[]⟩), (.int .i64 0), (.int .i64 0)]) 32 rfl Tryd.underlying34 info75 rfl u31_ u44_ u4 x4_1 (⟨t160, t161, t162⟩ : S75) [.string t160, .int .i64 t161, .int .i64 t162] (fun _ => True) (fun _ => False) rfl rfl ?aP (fun _ hk => hk.elim) ?aF ?aO ?aB ?aS ?aL ?_; (case aP => exact k75_mkM _ _ _ (⟨t160, t161, t162⟩ : S75)); (case aB => exact u0_); (case aF => exact (fun _ _ => trivial)); (case aO => exact u7_); (case aS => exact (below_size u0_)); (case aL => have := LMc9.out; omega); intro v164 w12 ho hb hg hat; rw [← Ny163.out] at ho; have n0_ := Aside0.mk (Kd.R_over' u28_ (Kd.R_typed u7_) u31_ hg); have n1_ := Aside0.mk (hb); have n2_ := Aside0.mk (ho); clear HO_5; clear HB; clear HO_4; have HO_5 := n0_; have HB := n1_; have HO165 := n2_; clear n0_ n1_ n2_; clear ho hb hg hat))
      go_roundg k1
      case measure => have := HK1.out; omega
      case rel => exact ⟨(y163), (wrap64 (x6_1 + 1)), u10_, H', ⟨u48_⟩, ⟨by (with_reducible repeat (first | apply Kd.R_alloc | apply Kd.R_drewN | apply Kd.R_drew)); exact HO165.out⟩, ⟨u28_⟩, ⟨u0_⟩⟩
     ·rw [if_neg c9] at H
      exact absurd H u43_
    ·rw [if_neg c7] at H
     exact absurd H u43_
   ·rw [if_neg c6] at H
    have c6b0 : decide (x6_1 < (t156.length : Int)) = false := decide_eq_false c6
    clear c6
    replace H := Option.bind_eq_some_iff.mp H
    obtain ⟨t166, A130, H⟩ := H
    replace H : (if t166 = true then ((spec_l2Put.f k1 x4_1).bind fun t167 => (if t167.toList = a0.toList then (some (x4_1, true)) else (some ((([] : List (S75))), false)))) else (some ((([] : List (S75))), false))) = some (r1, r2) := H
    have A13 := Aside0.mk A130
    clear A130
    by_cases c14 : t166 = true
    ·subst c14
     have H1 : ((spec_l2Put.f k1 x4_1).bind fun t167 => (if t167.toList = a0.toList then (some (x4_1, true)) else (some ((([] : List (S75))), false)))) = some (r1, r2) := by rw [if_pos rfl] at H; exact H
     clear H
     have H := H1
     clear H1
     replace H := Option.bind_eq_some_iff.mp H
     obtain ⟨t167, A150, H⟩ := H
     replace H : (if t167.toList = a0.toList then (some (x4_1, true)) else (some ((([] : List (S75))), false))) = some (r1, r2) := H
     have A15 := Aside0.mk A150
     clear A150
     by_cases c16 : t167.toList = a0.toList
     ·rw [if_pos c16] at H
      have c16b0 : (t167.toList == a0.toList) = true := beq_iff_eq.mpr c16
      have c16b1 : (t167.toList != a0.toList) = false := bne_eq_false_iff_eq.mpr c16
      clear c16
      simp only [Option.some.injEq, Prod.mk.injEq] at H
      obtain ⟨rfl, rfl⟩ := H
      obtain ⟨Ao17, co17, eo17⟩ := Kd.R_slice HO_5.out
      subst eo17
      obtain ⟨Ao18, co18, eo18⟩ := Kd.R_slice HO_4.out
      subst eo18
      go_wp2_with (first | ((with_reducible refine gate_callee (f := 32) rfl ?_); refine goesL_ (some 25) rfl rfl Tryd.func32 u20_ rfl #[.slice Ao18 x4_1.length co18] rfl u1_ ?_; (with_reducible refine (spec_FieldsOk.calls k1 _ _ x4_1 true _ ?side1 ?side2 A13.out).mono ?_); (case side1 => repeat (first | exact (Kd.R_reads' HO_4.out).2.2 | (with_reducible refine Kd.C_alloc ?_ _) | (with_reducible refine Kd.C_drewN ?_ _) | (with_reducible refine Kd.C_drew ?_))); (case side2 => exact (Kd.R_reads' HO_4.out).2.1); rintro e w19 ⟨rfl, hb⟩; refine ⟨_, rfl, ?_⟩; have n0_ := Aside0.mk (Kd.R_below u7_ hb); have n1_ := Aside0.mk (Kd.R_below u28_ hb); have n2_ := Aside0.mk (below_step u0_ hb); clear HO_4; clear HO_5; clear HB; have HO_4 := n0_; have HO_5 := n1_; have HB := n2_; clear n0_ n1_ n2_; (try clear hb); (try clear hb2); (try clear hk); (try clear hi)) | (go_at_call 54; (with_reducible refine (spec_l2Put.calls k1 _ _ x4_1 t167 _ ?side1 ?side2 A15.out).mono ?_); (case side1 => repeat (first | exact (Kd.R_reads' HO_4.out).2.2 | (with_reducible refine Kd.C_alloc ?_ _) | (with_reducible refine Kd.C_drewN ?_ _) | (with_reducible refine Kd.C_drew ?_))); (case side2 => exact (Kd.R_reads' HO_4.out).2.1); rintro e w20 ⟨rfl, hb⟩; have n0_ := Aside0.mk (Kd.R_below u7_ hb); have n1_ := Aside0.mk (Kd.R_below u28_ hb); have n2_ := Aside0.mk (below_step u0_ hb); clear HO_4; clear HO_5; clear HB; have HO_4 := n0_; have HO_5 := n1_; have HB := n2_; clear n0_ n1_ n2_; (try clear hb); (try clear hb2); (try clear hk); (try clear hi)))
      go_ret2
      exact ⟨_, u4_, u7_, u0_⟩
     ·rw [if_neg c16] at H
      have c16b0 : (t167.toList == a0.toList) = false := beq_eq_false_iff_ne.mpr c16
      have c16b1 : (t167.toList != a0.toList) = true := bne_iff_ne.mpr c16
      obtain ⟨y168, hy168⟩ : ∃ y_ : List (S75), y_ = (([] : List (S75))) := ⟨_, rfl⟩
      replace H : (some (y168, false)) = some (r1, r2) := by first | (rw [hy168]; with_reducible exact H) | (have H2_ := (Option.bind_some _ _).symm.trans H; rw [hy168]; with_reducible exact H2_) | (have H2_ := (Option.bind_some _ _).symm.trans H; with_reducible exact H2_) | with_reducible exact H | (rw [hy168]; exact H) | exact H
      have Ny168 := Aside0.mk hy168
      clear hy168
      simp only [Option.some.injEq, Prod.mk.injEq] at H
      obtain ⟨rfl, rfl⟩ := H
      obtain ⟨Ao21, co21, eo21⟩ := Kd.R_slice HO_5.out
      subst eo21
      obtain ⟨Ao22, co22, eo22⟩ := Kd.R_slice HO_4.out
      subst eo22
      go_wp2_with (first | ((with_reducible refine gate_callee (f := 32) rfl ?_); refine goesL_ (some 25) rfl rfl Tryd.func32 u20_ rfl #[.slice Ao22 x4_1.length co22] rfl u1_ ?_; (with_reducible refine (spec_FieldsOk.calls k1 _ _ x4_1 true _ ?side1 ?side2 A13.out).mono ?_); (case side1 => repeat (first | exact (Kd.R_reads' HO_4.out).2.2 | (with_reducible refine Kd.C_alloc ?_ _) | (with_reducible refine Kd.C_drewN ?_ _) | (with_reducible refine Kd.C_drew ?_))); (case side2 => exact (Kd.R_reads' HO_4.out).2.1); rintro e w23 ⟨rfl, hb⟩; refine ⟨_, rfl, ?_⟩; have n0_ := Aside0.mk (Kd.R_below u7_ hb); have n1_ := Aside0.mk (Kd.R_below u28_ hb); have n2_ := Aside0.mk (below_step u0_ hb); clear HO_4; clear HO_5; clear HB; have HO_4 := n0_; have HO_5 := n1_; have HB := n2_; clear n0_ n1_ n2_; (try clear hb); (try clear hb2); (try clear hk); (try clear hi)) | (go_at_call 54; (with_reducible refine (spec_l2Put.calls k1 _ _ x4_1 t167 _ ?side1 ?side2 A15.out).mono ?_); (case side1 => repeat (first | exact (Kd.R_reads' HO_4.out).2.2 | (with_reducible refine Kd.C_alloc ?_ _) | (with_reducible refine Kd.C_drewN ?_ _) | (with_reducible refine Kd.C_drew ?_))); (case side2 => exact (Kd.R_reads' HO_4.out).2.1); rintro e w24 ⟨rfl, hb⟩; have n0_ := Aside0.mk (Kd.R_below u7_ hb); have n1_ := Aside0.mk (Kd.R_below u28_ hb); have n2_ := Aside0.mk (below_step u0_ hb); clear HO_4; clear HO_5; clear HB; have HO_4 := n0_; have HO_5 := n1_; have HB := n2_; clear n0_ n1_ n2_; (try clear hb); (try clear hb2); (try clear hk); (try clear hi)) | ((with_reducible refine gate_dst (N := 33) rfl ?_); refine Kd.R_lit k75 _ 75 ?hg (N := 33) ?hd (xs := ([] : List (S75))) (inner := []) (ok := fun _ => True) (okp := fun _ => True) ?hr ?hp (fun _ hk => hk) trivial (Below.refl _ _) (Nat.le_refl _) u43_ ?_; (case hd => rfl); (case hg => rfl); (case hr => first | (go_simp; done) | (go_simp; rfl)); (case hp => exact (Reps.none _ _)); intro v169 w25 ho26 hb hg_ hnew_; clear hg_ hnew_; (first | rw [← Ny168.out] at ho26 | (simp only [Int.reduceToNat] at ho26; rw [← Ny168.out] at ho26)); have n0_ := Aside0.mk (Kd.R_elder' u7_ (Kd.R_base ho26) hb); have n1_ := Aside0.mk (Kd.R_below u28_ hb); have n2_ := Aside0.mk (Kd.R_lower (Kd.R_new' ho26 (Kd.R_lt u7_)) (below_size u0_)); have n3_ := Aside0.mk (below_step u0_ hb); clear HO_4; clear HO_5; clear HB; have HO_4 := n0_; have HO_5 := n1_; have HO170 := n2_; have HB := n3_; clear n0_ n1_ n2_ n3_; clear hb ho26))
      go_ret2
      exact ⟨_, u4_, by (with_reducible repeat (first | apply Kd.R_alloc | apply Kd.R_drewN | apply Kd.R_drew)); exact Kd.R_mono HO170.out (fun _ hk => trivial), u0_⟩
    ·replace c14 := Bool.eq_false_iff.mpr c14
     subst c14
     have H1 : (some ((([] : List (S75))), false)) = some (r1, r2) := by rw [if_neg (show ¬ (false = true) by decide)] at H; exact H
     clear H
     have H := H1
     clear H1
     obtain ⟨y171, hy171⟩ : ∃ y_ : List (S75), y_ = (([] : List (S75))) := ⟨_, rfl⟩
     replace H : (some (y171, false)) = some (r1, r2) := by first | (rw [hy171]; with_reducible exact H) | (have H2_ := (Option.bind_some _ _).symm.trans H; rw [hy171]; with_reducible exact H2_) | (have H2_ := (Option.bind_some _ _).symm.trans H; with_reducible exact H2_) | with_reducible exact H | (rw [hy171]; exact H) | exact H
     have Ny171 := Aside0.mk hy171
     clear hy171
     simp only [Option.some.injEq, Prod.mk.injEq] at H
     obtain ⟨rfl, rfl⟩ := H
     obtain ⟨Ao27, co27, eo27⟩ := Kd.R_slice HO_5.out
     subst eo27
     obtain ⟨Ao28, co28, eo28⟩ := Kd.R_slice HO_4.out
     subst eo28
     go_wp2_with (first | ((with_reducible refine gate_callee (f := 32) rfl ?_); refine goesL_ (some 25) rfl rfl Tryd.func32 u20_ rfl #[.slice Ao28 x4_1.length co28] rfl u1_ ?_; (with_reducible refine (spec_FieldsOk.calls k1 _ _ x4_1 false _ ?side1 ?side2 A13.out).mono ?_); (case side1 => repeat (first | exact (Kd.R_reads' HO_4.out).2.2 | (with_reducible refine Kd.C_alloc ?_ _) | (with_reducible refine Kd.C_drewN ?_ _) | (with_reducible refine Kd.C_drew ?_))); (case side2 => exact (Kd.R_reads' HO_4.out).2.1); rintro e w29 ⟨rfl, hb⟩; refine ⟨_, rfl, ?_⟩; have n0_ := Aside0.mk (Kd.R_below u7_ hb); have n1_ := Aside0.mk (Kd.R_below u28_ hb); have n2_ := Aside0.mk (below_step u0_ hb); clear HO_4; clear HO_5; clear HB; have HO_4 := n0_; have HO_5 := n1_; have HB := n2_; clear n0_ n1_ n2_; (try clear hb); (try clear hb2); (try clear hk); (try clear hi)) | ((with_reducible refine gate_dst (N := 33) rfl ?_); refine Kd.R_lit k75 _ 75 ?hg (N := 33) ?hd (xs := ([] : List (S75))) (inner := []) (ok := fun _ => True) (okp := fun _ => True) ?hr ?hp (fun _ hk => hk) trivial (Below.refl _ _) (Nat.le_refl _) u43_ ?_; (case hd => rfl); (case hg => rfl); (case hr => first | (go_simp; done) | (go_simp; rfl)); (case hp => exact (Reps.none _ _)); intro v172 w30 ho31 hb hg_ hnew_; clear hg_ hnew_; (first | rw [← Ny171.out] at ho31 | (simp only [Int.reduceToNat] at ho31; rw [← Ny171.out] at ho31)); have n0_ := Aside0.mk (Kd.R_elder' u7_ (Kd.R_base ho31) hb); have n1_ := Aside0.mk (Kd.R_below u28_ hb); have n2_ := Aside0.mk (Kd.R_lower (Kd.R_new' ho31 (Kd.R_lt u7_)) (below_size u0_)); have n3_ := Aside0.mk (below_step u0_ hb); clear HO_4; clear HO_5; clear HB; have HO_4 := n0_; have HO_5 := n1_; have HO173 := n2_; have HB := n3_; clear n0_ n1_ n2_ n3_; clear hb ho31))
     go_ret2
     exact ⟨_, u4_, by (with_reducible repeat (first | apply Kd.R_alloc | apply Kd.R_drewN | apply Kd.R_drew)); exact Kd.R_mono HO173.out (fun _ hk => trivial), u0_⟩

/-! ### impl_within: function 50 -/
def impl_within.f (a0 : Int) (a1 : Int) (a2 : Int) : Option (Bool) := if a0 ≥ a1 then (some (decide (a0 ≤ a2))) else (some false)
set_option maxHeartbeats 8000000 in
set_option maxRecDepth 100000 in
theorem impl_within.calls (a0 : Int) (a1 : Int) (a2 : Int) (r : Bool) (w : World) (h : impl_within.f a0 a1 a2 = some r) :
  Calls Tryd.prog 50 #[.int .i64 a0, .int .i64 a1, .int .i64 a2] w fun e w' => e = .returned (.bool r) ∧ Drawn0 w w' := by
 have H : (if a0 ≥ a1 then (some (decide (a0 ≤ a2))) else (some false)) = some r := h
 clear h
 by_cases c4 : a0 ≥ a1
 ·rw [if_pos c4] at H
  have c4b0 : decide (a1 ≤ a0) = true := decide_eq_true c4
  clear c4
  obtain rfl := Option.some.inj H
  go_enter Tryd.func50, Tryd.ntmps50
  go_wp2
  go_ret
  exact ⟨u12_, u11_⟩
 ·rw [if_neg c4] at H
  have c4b0 : decide (a1 ≤ a0) = false := decide_eq_false c4
  clear c4
  obtain rfl := Option.some.inj H
  go_enter Tryd.func50, Tryd.ntmps50
  go_wp2
  go_ret
  exact ⟨u12_, u11_⟩

/-! ### impl_lower: function 93 -/
def impl_lower.f (a0 : Int) : Option (Bool) := if a0 ≥ 97 then (some (decide (a0 ≤ 122))) else (some false)
set_option maxHeartbeats 8000000 in
set_option maxRecDepth 100000 in
theorem impl_lower.calls (a0 : Int) (r : Bool) (w : World) (h : impl_lower.f a0 = some r) :
  Calls Tryd.prog 93 #[.int .u8 a0] w fun e w' => e = .returned (.bool r) ∧ Drawn0 w w' := by
 have H : (if a0 ≥ 97 then (some (decide (a0 ≤ 122))) else (some false)) = some r := h
 clear h
 by_cases c2 : a0 ≥ 97
 ·rw [if_pos c2] at H
  have c2b0 : decide (97 ≤ a0) = true := decide_eq_true c2
  clear c2
  obtain rfl := Option.some.inj H
  go_enter Tryd.func93, Tryd.ntmps93
  go_wp2
  go_ret
  exact ⟨u12_, u11_⟩
 ·rw [if_neg c2] at H
  have c2b0 : decide (97 ≤ a0) = false := decide_eq_false c2
  clear c2
  obtain rfl := Option.some.inj H
  go_enter Tryd.func93, Tryd.ntmps93
  go_wp2
  go_ret
  exact ⟨u12_, u11_⟩

/-! ### impl_digit: function 94 -/
def impl_digit.f (a0 : Int) : Option (Bool) := if a0 ≥ 48 then (some (decide (a0 ≤ 57))) else (some false)
set_option maxHeartbeats 8000000 in
set_option maxRecDepth 100000 in
theorem impl_digit.calls (a0 : Int) (r : Bool) (w : World) (h : impl_digit.f a0 = some r) :
  Calls Tryd.prog 94 #[.int .u8 a0] w fun e w' => e = .returned (.bool r) ∧ Drawn0 w w' := by
 have H : (if a0 ≥ 48 then (some (decide (a0 ≤ 57))) else (some false)) = some r := h
 clear h
 by_cases c2 : a0 ≥ 48
 ·rw [if_pos c2] at H
  have c2b0 : decide (48 ≤ a0) = true := decide_eq_true c2
  clear c2
  obtain rfl := Option.some.inj H
  go_enter Tryd.func94, Tryd.ntmps94
  go_wp2
  go_ret
  exact ⟨u12_, u11_⟩
 ·rw [if_neg c2] at H
  have c2b0 : decide (48 ≤ a0) = false := decide_eq_false c2
  clear c2
  obtain rfl := Option.some.inj H
  go_enter Tryd.func94, Tryd.ntmps94
  go_wp2
  go_ret
  exact ⟨u12_, u11_⟩

/-! ### impl_NameOk: function 66 -/
def impl_NameOk.l0 : Nat → ByteArray → Int → Int → Option (Bool)
 | 0, _, _, _ => none
 | k + 1, x0, x5, x6 => if x6 < x5 then (if 0 ≤ x6 then (if x6 < (x0.size : Int) then ((impl_lower.f (bt x0 x6)).bind fun t175 => (if t175 = true then (impl_NameOk.l0 k x0 x5 (wrap64 (x6 + 1))) else (if x6 = 0 then (some false) else ((impl_digit.f (bt x0 x6)).bind fun t176 => (if t176 = true then (impl_NameOk.l0 k x0 x5 (wrap64 (x6 + 1))) else (some false)))))) else (none)) else (none)) else ((impl_within.f (x0.size : Int) 1 8).bind fun t174 => (some t174))
def impl_NameOk.f (k : Nat) (a0 : ByteArray) : Option (Bool) := impl_NameOk.l0 k a0 (a0.size : Int) 0
theorem impl_NameOk.mono_l : ∀ k, (∀ y0 y1 y2, LeO (impl_NameOk.l0 k y0 y1 y2) (impl_NameOk.l0 (k + 1) y0 y1 y2))
 | 0 => fun _ _ _ r h => by simp [impl_NameOk.l0] at h
 | k + 1 => by
  have ih0 := impl_NameOk.mono_l k
  ·intro y0 y1 y2
   unfold impl_NameOk.l0
   repeat' first
   | (with_reducible exact ih0 _ _ _)
   | (with_reducible exact LeO.refl _)
   | (with_reducible exact LeO.none _)
   | (with_reducible refine LeO.ite ?_ ?_)
   | (with_reducible refine LeO.bind ?_ (fun _ => ?_))
   | exact ih0 _ _ _
   | exact LeO.none _
   | refine LeO.ite ?_ ?_
   | refine LeO.bind ?_ (fun _ => ?_)
theorem impl_NameOk.mono : ∀ a0 k, LeO (impl_NameOk.f k a0) (impl_NameOk.f (k + 1) a0) := by
 intro a0 k
 have ih0 := impl_NameOk.mono_l k
 unfold impl_NameOk.f
 repeat' first
   | (with_reducible exact ih0 _ _ _)
   | (with_reducible exact LeO.refl _)
   | (with_reducible exact LeO.none _)
   | (with_reducible refine LeO.ite ?_ ?_)
   | (with_reducible refine LeO.bind ?_ (fun _ => ?_))
   | exact ih0 _ _ _
   | exact LeO.none _
   | refine LeO.ite ?_ ?_
   | refine LeO.bind ?_ (fun _ => ?_)
set_option maxHeartbeats 8000000 in
set_option maxRecDepth 100000 in
theorem impl_NameOk.calls (k : Nat) (a0 : ByteArray) (r : Bool) (w : World) (h : impl_NameOk.f k a0 = some r) :
  Calls Tryd.prog 66 #[.string a0] w fun e w' => e = .returned (.bool r) ∧ Drawn0 w w' := by
 have H : (impl_NameOk.l0 k a0 (a0.size : Int) 0) = some r := h
 clear h
 have H' := Aside0.mk H
 clear H
 go_enter Tryd.func66, Tryd.ntmps66
 go_wp2
 go_loopg [6] k (fun kq v6 w' => ∃ (x6_1 : Int), v6 = .int .i64 x6_1 ∧ Aside0 (impl_NameOk.l0 kq a0 (a0.size : Int) x6_1 = some r) ∧ Aside0 (kq ≤ k) ∧ Drawn0 w w')
 case atStart => exact ⟨(0), u10_, H', ⟨Nat.le_refl _⟩, u11_⟩
 case round =>
  clear H'
  obtain ⟨x6_1, rfl, HA, HK1, ⟨m1, rfl⟩⟩ := hrel
  cases gk with
  | zero => exact absurd HA.out (by simp [impl_NameOk.l0])
  | succ k1 =>
   have H := HA.out
   clear HA
   simp only [impl_NameOk.l0] at H
   by_cases c2 : x6_1 < (a0.size : Int)
   ·rw [if_pos c2] at H
    have c2b0 : decide (x6_1 < (a0.size : Int)) = true := decide_eq_true c2
    clear c2
    by_cases c3 : 0 ≤ x6_1
    ·rw [if_pos c3] at H
     have c3b0 : decide (0 ≤ x6_1) = true := decide_eq_true c3
     clear c3
     by_cases c4 : x6_1 < (a0.size : Int)
     ·rw [if_pos c4] at H
      have c4b0 : decide (x6_1 < (a0.size : Int)) = true := decide_eq_true c4
      clear c4
      replace H := Option.bind_eq_some_iff.mp H
      obtain ⟨t175, A60, H⟩ := H
      replace H : (if t175 = true then (impl_NameOk.l0 k1 a0 (a0.size : Int) (wrap64 (x6_1 + 1))) else (if x6_1 = 0 then (some false) else ((impl_digit.f (bt a0 x6_1)).bind fun t176 => (if t176 = true then (impl_NameOk.l0 k1 a0 (a0.size : Int) (wrap64 (x6_1 + 1))) else (some false))))) = some r := H
      have A6 := Aside0.mk A60
      clear A60
      by_cases c7 : t175 = true
      ·subst c7
       have H1 : (impl_NameOk.l0 k1 a0 (a0.size : Int) (wrap64 (x6_1 + 1))) = some r := by rw [if_pos rfl] at H; exact H
       clear H
       have H := H1
       clear H1
       have H' := Aside0.mk H
       clear H
       have p5 : 0 ≤ (x6_1 : Int) := of_decide_eq_true u3_
       have q5 : x6_1 < (a0.size : Int) := of_decide_eq_true u3_
       have hx5 := bt_at a0 x6_1
       replace p5 := eq_true p5
       replace q5 := eq_true q5
       go_wp2_with (first | ((with_reducible refine gate_callee (f := 93) rfl ?_); refine goesL_ (some 12) rfl rfl Tryd.func93 u20_ rfl #[.int .u8 (bt a0 x6_1)] rfl u1_ ?_; (with_reducible refine (impl_lower.calls (bt a0 x6_1) true _ A6.out).mono ?_); rintro e w' ⟨rfl, ⟨nd, rfl⟩⟩; refine ⟨_, rfl, ?_⟩))
       go_roundg k1
       case measure => have := HK1.out; omega
       case rel => exact ⟨(wrap64 (x6_1 + 1)), u10_, H', ⟨u48_⟩, u11_⟩
      ·replace c7 := Bool.eq_false_iff.mpr c7
       subst c7
       have H1 : (if x6_1 = 0 then (some false) else ((impl_digit.f (bt a0 x6_1)).bind fun t176 => (if t176 = true then (impl_NameOk.l0 k1 a0 (a0.size : Int) (wrap64 (x6_1 + 1))) else (some false)))) = some r := by rw [if_neg (show ¬ (false = true) by decide)] at H; exact H
       clear H
       have H := H1
       clear H1
       by_cases c8 : x6_1 = 0
       ·rw [if_pos c8] at H
        have c8b0 : (x6_1 == 0) = true := beq_iff_eq.mpr c8
        have c8b1 : (x6_1 != 0) = false := bne_eq_false_iff_eq.mpr c8
        clear c8
        obtain rfl := Option.some.inj H
        have p5 : 0 ≤ (x6_1 : Int) := of_decide_eq_true u3_
        have q5 : x6_1 < (a0.size : Int) := of_decide_eq_true u3_
        have hx5 := bt_at a0 x6_1
        replace p5 := eq_true p5
        replace q5 := eq_true q5
        go_wp2_with (first | ((with_reducible refine gate_callee (f := 93) rfl ?_); refine goesL_ (some 12) rfl rfl Tryd.func93 u20_ rfl #[.int .u8 (bt a0 x6_1)] rfl u1_ ?_; (with_reducible refine (impl_lower.calls (bt a0 x6_1) false _ A6.out).mono ?_); rintro e w' ⟨rfl, ⟨nd, rfl⟩⟩; refine ⟨_, rfl, ?_⟩))
        go_ret
        exact ⟨u12_, u11_⟩
       ·rw [if_neg c8] at H
        have c8b0 : (x6_1 == 0) = false := beq_eq_false_iff_ne.mpr c8
        have c8b1 : (x6_1 != 0) = true := bne_iff_ne.mpr c8
        replace H := Option.bind_eq_some_iff.mp H
        obtain ⟨t176, A100, H⟩ := H
        replace H : (if t176 = true then (impl_NameOk.l0 k1 a0 (a0.size : Int) (wrap64 (x6_1 + 1))) else (some false)) = some r := H
        have A10 := Aside0.mk A100
        clear A100
        by_cases c11 : t176 = true
        ·subst c11
         have H1 : (impl_NameOk.l0 k1 a0 (a0.size : Int) (wrap64 (x6_1 + 1))) = some r := by rw [if_pos rfl] at H; exact H
         clear H
         have H := H1
         clear H1
         have H' := Aside0.mk H
         clear H
         have p5 : 0 ≤ (x6_1 : Int) := of_decide_eq_true u3_
         have q5 : x6_1 < (a0.size : Int) := of_decide_eq_true u3_
         have hx5 := bt_at a0 x6_1
         replace p5 := eq_true p5
         replace q5 := eq_true q5
         go_wp2_with (first | ((with_reducible refine gate_callee (f := 93) rfl ?_); refine goesL_ (some 12) rfl rfl Tryd.func93 u20_ rfl #[.int .u8 (bt a0 x6_1)] rfl u1_ ?_; (with_reducible refine (impl_lower.calls (bt a0 x6_1) false _ A6.out).mono ?_); rintro e w' ⟨rfl, ⟨nd, rfl⟩⟩; refine ⟨_, rfl, ?_⟩; have p9 : 0 ≤ (x6_1 : Int) := of_decide_eq_true u3_; have q9 : x6_1 < (a0.size : Int) := of_decide_eq_true u3_; have hx9 := bt_at a0 x6_1; replace p9 := eq_true p9; replace q9 := eq_true q9) | (go_at_call 94; (with_reducible refine (impl_digit.calls (bt a0 x6_1) true _ A10.out).mono ?_); rintro e w' ⟨rfl, ⟨nd, rfl⟩⟩))
         go_roundg k1
         case measure => have := HK1.out; omega
         case rel => exact ⟨(wrap64 (x6_1 + 1)), u10_, H', ⟨u48_⟩, u11_⟩
        ·replace c11 := Bool.eq_false_iff.mpr c11
         subst c11
         have H1 : (some false) = some r := by rw [if_neg (show ¬ (false = true) by decide)] at H; exact H
         clear H
         have H := H1
         clear H1
         obtain rfl := Option.some.inj H
         have p5 : 0 ≤ (x6_1 : Int) := of_decide_eq_true u3_
         have q5 : x6_1 < (a0.size : Int) := of_decide_eq_true u3_
         have hx5 := bt_at a0 x6_1
         replace p5 := eq_true p5
         replace q5 := eq_true q5
         go_wp2_with (first | ((with_reducible refine gate_callee (f := 93) rfl ?_); refine goesL_ (some 12) rfl rfl Tryd.func93 u20_ rfl #[.int .u8 (bt a0 x6_1)] rfl u1_ ?_; (with_reducible refine (impl_lower.calls (bt a0 x6_1) false _ A6.out).mono ?_); rintro e w' ⟨rfl, ⟨nd, rfl⟩⟩; refine ⟨_, rfl, ?_⟩; have p9 : 0 ≤ (x6_1 : Int) := of_decide_eq_true u3_; have q9 : x6_1 < (a0.size : Int) := of_decide_eq_true u3_; have hx9 := bt_at a0 x6_1; replace p9 := eq_true p9; replace q9 := eq_true q9) | (go_at_call 94; (with_reducible refine (impl_digit.calls (bt a0 x6_1) false _ A10.out).mono ?_); rintro e w' ⟨rfl, ⟨nd, rfl⟩⟩))
         go_ret
         exact ⟨u12_, u11_⟩
     ·rw [if_neg c4] at H
      exact absurd H u43_
    ·rw [if_neg c3] at H
     exact absurd H u43_
   ·rw [if_neg c2] at H
    have c2b0 : decide (x6_1 < (a0.size : Int)) = false := decide_eq_false c2
    clear c2
    replace H := Option.bind_eq_some_iff.mp H
    obtain ⟨t174, A120, H⟩ := H
    replace H : (some t174) = some r := H
    have A12 := Aside0.mk A120
    clear A120
    obtain rfl := Option.some.inj H
    go_wp2_with (first | ((with_reducible refine gate_callee (f := 50) rfl ?_); refine goesL_ (some 28) rfl rfl Tryd.func50 u20_ rfl #[.int .i64 (a0.size : Int), .int .i64 1, .int .i64 8] rfl u1_ ?_; (with_reducible refine (impl_within.calls (a0.size : Int) 1 8 t174 _ A12.out).mono ?_); rintro e w' ⟨rfl, ⟨nd, rfl⟩⟩; refine ⟨_, rfl, ?_⟩))
    go_ret
    exact ⟨u12_, u11_⟩

end Go.Proofs.YtelcdhjdlgedeaaDoor.PFnFields
