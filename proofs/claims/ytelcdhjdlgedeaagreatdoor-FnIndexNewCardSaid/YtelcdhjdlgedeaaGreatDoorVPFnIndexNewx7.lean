/- Contracts of Go functions that the law FnIndexNew reaches: each is told as a plain Lean function, with the walk that shows it; no condition beyond what each states. Written by a program of this session round the kit's printer. -/
import Derived.Test.YtelcdhjdlgedeaaGreatDoorVPFnIndexNewx0
import Derived.Test.YtelcdhjdlgedeaaGreatDoorVPFnIndexNewx6
namespace Go.Proofs.YtelcdhjdlgedeaaGreatDoor.PFnIndexNew
open Go.RowKit Go.Proofs.YtelcdhjdlgedeaaGreatDoorW.PrintWords Go.Proofs.YtelcdhjdlgedeaaGreatDoorW.PrintLast Go.Proofs.YtelcdhjdlgedeaaGreatDoorW.PrintMore
attribute [local go_sem] run_str_geq run_str_leq max2_int min2_int max_two min_two max_three min_three max_four min_four   -- for this text's walks alone
set_option linter.unusedVariables false
set_option linter.unusedSimpArgs false

/-! ### laws_sdPosts: function 29 -/
def laws_sdPosts.l0 : Nat → List (S98) → List (S98) → Int → Option (Bool)
 | 0, _, _, _ => none
 | k + 1, x0, x1, x5 => if x5 < (x0.length : Int) then (if 0 ≤ x5 then (if x5 < (x1.length : Int) then (if ((rd_T98 x0 x5).f0) = ((rd_T98 x1 x5).f0) then ((laws_sdInts.f k ((rd_T98 x0 x5).f1) ((rd_T98 x1 x5).f1)).bind fun t225 => (if t225 = true then (laws_sdPosts.l0 k x0 x1 (wrap64 (x5 + 1))) else (some false))) else (some false)) else (none)) else (none)) else (some true)
def laws_sdPosts.f (k : Nat) (l0 : List (S98)) (l1 : List (S98)) : Option (Bool) := if (l0.length : Int) = (l1.length : Int) then (laws_sdPosts.l0 k l0 l1 0) else (some false)
theorem laws_sdPosts.mono_l : ∀ k, (∀ y0 y1 y2, LeO (laws_sdPosts.l0 k y0 y1 y2) (laws_sdPosts.l0 (k + 1) y0 y1 y2))
 | 0 => fun _ _ _ r h => by simp [laws_sdPosts.l0] at h
 | k + 1 => by
  have ih0 := laws_sdPosts.mono_l k
  ·intro y0 y1 y2; unfold laws_sdPosts.l0
   repeat' first
   | (with_reducible exact ih0 _ _ _)
   | (with_reducible exact laws_sdInts.mono _ _ _)
   | (with_reducible exact LeO.refl _)
   | (with_reducible exact LeO.none _)
   | (with_reducible refine LeO.ite ?_ ?_)
   | (with_reducible refine LeO.bind ?_ (fun _ => ?_))
   | exact ih0 _ _ _
   | exact laws_sdInts.mono _ _ _
   | exact LeO.none _
   | refine LeO.ite ?_ ?_
   | refine LeO.bind ?_ (fun _ => ?_)
theorem laws_sdPosts.mono : ∀ a0 a1 k, LeO (laws_sdPosts.f k a0 a1) (laws_sdPosts.f (k + 1) a0 a1) := by
 intro a0 a1 k; have ih0 := laws_sdPosts.mono_l k; unfold laws_sdPosts.f
 repeat' first
   | (with_reducible exact ih0 _ _ _)
   | (with_reducible exact laws_sdInts.mono _ _ _)
   | (with_reducible exact LeO.refl _)
   | (with_reducible exact LeO.none _)
   | (with_reducible refine LeO.ite ?_ ?_)
   | (with_reducible refine LeO.bind ?_ (fun _ => ?_))
   | exact ih0 _ _ _
   | exact laws_sdInts.mono _ _ _
   | exact LeO.none _
   | refine LeO.ite ?_ ?_
   | refine LeO.bind ?_ (fun _ => ?_)
set_option maxHeartbeats 8000000 in
set_option maxRecDepth 100000 in
theorem laws_sdPosts.calls (k : Nat) (A0 : Option Addr) (c0 : Nat) (l0 : List (S98)) (A1 : Option Addr) (c1 : Nat) (l1 : List (S98)) (r : Bool) (w : World) (hr0 : Kd.C k98 w A0 l0.length l0) (hc0 : l0.length ≤ c0) (hr1 : Kd.C k98 w A1 l1.length l1) (hc1 : l1.length ≤ c1) (h : laws_sdPosts.f k l0 l1 = some r) :
  Calls Tryz.prog 29 #[.slice A0 l0.length c0, .slice A1 l1.length c1] w fun e w' => e = .returned (.bool r) ∧ Drawn0 w w' := by
 have HR0 := am_ hr0; have HC0 := am_ hc0; clear hr0 hc0; have HR1 := am_ hr1; have HC1 := am_ hc1; clear hr1 hc1; have H : (if (l0.length : Int) = (l1.length : Int) then (laws_sdPosts.l0 k l0 l1 0) else (some false)) = some r := h; clear h; by_cases c3 : (l0.length : Int) = (l1.length : Int)
 ·rw [if_pos c3] at H; have c3b0 : ((l0.length : Int) == (l1.length : Int)) = true := beq_iff_eq.mpr c3; have c3b1 : ((l0.length : Int) != (l1.length : Int)) = false := bne_eq_false_iff_eq.mpr c3; have c3b2 : (l0.length == l1.length) = true := by first | simpa using c3 | (simp at c3 ⊢; omega)
  clear c3; have H' := am_ H; clear H; go_enter Tryz.func29, Tryz.ntmps29
  go_wp2; repeat (go_quiet (fail); try go_wp2)
  go_loopg [5] k (fun kq v5 w' => ∃ (x5_1 : Int), v5 = .int .i64 x5_1 ∧ Aside0 (laws_sdPosts.l0 kq l0 l1 x5_1 = some r) ∧ Aside0 (kq ≤ k) ∧ Drawn0 w w')
  case atStart => exact ⟨(0), u20_, H', ⟨Nat.le_refl _⟩, u13_⟩
  case round =>
   clear H'; try clear c1
   try clear c2
   try clear p2
   try clear c3
   try clear c3b0
   try clear c3b1
   try clear c3b2
   obtain ⟨x5_1, rfl, HA, HK1, ⟨m1, rfl⟩⟩ := hrel; cases gk with
   | zero => exact absurd HA.out (by simp [laws_sdPosts.l0])
   | succ k1 =>
    have H := HA.out; clear HA; simp only [laws_sdPosts.l0] at H; by_cases c4 : x5_1 < (l0.length : Int)
    ·rw [if_pos c4] at H; have c4b0 : decide (x5_1 < (l0.length : Int)) = true := decide_eq_true c4; clear c4; by_cases c5 : 0 ≤ x5_1
     ·rw [if_pos c5] at H; have c5b0 : decide (0 ≤ x5_1) = true := decide_eq_true c5; clear c5; by_cases c6 : x5_1 < (l1.length : Int)
      ·rw [if_pos c6] at H; have c6b0 : decide (x5_1 < (l1.length : Int)) = true := decide_eq_true c6; clear c6; by_cases c7 : ((rd_T98 l0 x5_1).f0) = ((rd_T98 l1 x5_1).f0)
       ·rw [if_pos c7] at H; have c7b0 : (((rd_T98 l0 x5_1).f0) == ((rd_T98 l1 x5_1).f0)) = true := beq_iff_eq.mpr c7; have c7b1 : (((rd_T98 l0 x5_1).f0) != ((rd_T98 l1 x5_1).f0)) = false := bne_eq_false_iff_eq.mpr c7; clear c7; replace H := Option.bind_eq_some_iff.mp H; obtain ⟨t225, A80, H⟩ := H; replace H : (if t225 = true then (laws_sdPosts.l0 k1 l0 l1 (wrap64 (x5_1 + 1))) else (some false)) = some r := H; have A8 := am_ A80; clear A80; by_cases c9 : t225 = true
        ·subst c9; rw [if_pos rfl] at H; have H' := am_ H; clear H; have p221 : 0 ≤ (x5_1 : Int) := of_decide_eq_true u2_; have q221 : x5_1 < (l0.length : Int) := of_decide_eq_true u2_; obtain ⟨ad221, A221_1, c221_1, e221, hx221_0, hx221_1, hl221_1, hi221_1⟩ := at_T98 HR0.out x5_1 p221 q221; cases e221; have HR221_1 := am_ hi221_1; have HC221_1 := am_ hl221_1; clear hi221_1 hl221_1; replace p221 := eq_true p221; replace q221 := eq_true q221; have p222 : 0 ≤ (x5_1 : Int) := of_decide_eq_true u2_; have q222 : x5_1 < (l1.length : Int) := of_decide_eq_true u2_; obtain ⟨ad222, A222_1, c222_1, e222, hx222_0, hx222_1, hl222_1, hi222_1⟩ := at_T98 HR1.out x5_1 p222 q222; cases e222; have HR222_1 := am_ hi222_1; have HC222_1 := am_ hl222_1; clear hi222_1 hl222_1; replace p222 := eq_true p222; replace q222 := eq_true q222; have p223 : 0 ≤ (x5_1 : Int) := of_decide_eq_true u2_; have q223 : x5_1 < (l0.length : Int) := of_decide_eq_true u2_; obtain ⟨ad223, A223_1, c223_1, e223, hx223_0, hx223_1, hl223_1, hi223_1⟩ := at_T98 HR0.out x5_1 p223 q223; obtain rfl : ad221 = ad223 := (by injection e223); have HR223_1 := am_ hi223_1; have HC223_1 := am_ hl223_1; clear hi223_1 hl223_1; replace p223 := eq_true p223; replace q223 := eq_true q223; have ea_ := Option.some.inj (hx221_1.symm.trans hx223_1); injection ea_ with ea_ en_ ec_
         subst ea_; subst ec_; clear en_; have p224 : 0 ≤ (x5_1 : Int) := of_decide_eq_true u2_; have q224 : x5_1 < (l1.length : Int) := of_decide_eq_true u2_; obtain ⟨ad224, A224_1, c224_1, e224, hx224_0, hx224_1, hl224_1, hi224_1⟩ := at_T98 HR1.out x5_1 p224 q224; obtain rfl : ad222 = ad224 := (by injection e224); have HR224_1 := am_ hi224_1; have HC224_1 := am_ hl224_1; clear hi224_1 hl224_1; replace p224 := eq_true p224; replace q224 := eq_true q224; have ea_ := Option.some.inj (hx222_1.symm.trans hx224_1); injection ea_ with ea_ en_ ec_
         subst ea_; subst ec_; clear en_; go_wp2_with (first | (go_at_call 58; (with_reducible refine (laws_sdInts.calls k1 _ _ ((rd_T98 l0 x5_1).f1) _ _ ((rd_T98 l1 x5_1).f1) true _ ?side1 ?side2 ?side3 ?side4 A8.out).mono ?_); (case side1 => exact u37_); (case side2 => exact HC223_1.out); (case side3 => exact u38_); (case side4 => exact HC224_1.out); rintro e w' ⟨rfl, ⟨nd, rfl⟩⟩; (try first | exact ⟨rfl, _, World.drewN_drewN _ _ _⟩ | exact ⟨rfl, _, Eq.trans (World.drewN_drewN _ _ _) (congrArg (World.drewN _) (Nat.add_assoc _ _ _))⟩)))
         repeat (go_quiet (first | (go_at_call 58; (with_reducible refine (laws_sdInts.calls k1 _ _ ((rd_T98 l0 x5_1).f1) _ _ ((rd_T98 l1 x5_1).f1) true _ ?side1 ?side2 ?side3 ?side4 A8.out).mono ?_); (case side1 => exact u37_); (case side2 => exact HC223_1.out); (case side3 => exact u38_); (case side4 => exact HC224_1.out); rintro e w' ⟨rfl, ⟨nd, rfl⟩⟩; (try first | exact ⟨rfl, _, World.drewN_drewN _ _ _⟩ | exact ⟨rfl, _, Eq.trans (World.drewN_drewN _ _ _) (congrArg (World.drewN _) (Nat.add_assoc _ _ _))⟩))); try go_wp2_with (first | (go_at_call 58; (with_reducible refine (laws_sdInts.calls k1 _ _ ((rd_T98 l0 x5_1).f1) _ _ ((rd_T98 l1 x5_1).f1) true _ ?side1 ?side2 ?side3 ?side4 A8.out).mono ?_); (case side1 => exact u37_); (case side2 => exact HC223_1.out); (case side3 => exact u38_); (case side4 => exact HC224_1.out); rintro e w' ⟨rfl, ⟨nd, rfl⟩⟩; (try first | exact ⟨rfl, _, World.drewN_drewN _ _ _⟩ | exact ⟨rfl, _, Eq.trans (World.drewN_drewN _ _ _) (congrArg (World.drewN _) (Nat.add_assoc _ _ _))⟩))))
         go_roundg k1
         case measure => have := HK1.out; omega
         case rel => exact ⟨(wrap64 (x5_1 + 1)), u20_, H', ⟨u72_⟩, u13_⟩
        ·replace c9 := Bool.eq_false_iff.mpr c9; subst c9; rw [if_neg (show ¬ (false = true) by decide)] at H; obtain rfl := Option.some.inj H; have p221 : 0 ≤ (x5_1 : Int) := of_decide_eq_true u2_; have q221 : x5_1 < (l0.length : Int) := of_decide_eq_true u2_; obtain ⟨ad221, A221_1, c221_1, e221, hx221_0, hx221_1, hl221_1, hi221_1⟩ := at_T98 HR0.out x5_1 p221 q221; cases e221; have HR221_1 := am_ hi221_1; have HC221_1 := am_ hl221_1; clear hi221_1 hl221_1; replace p221 := eq_true p221; replace q221 := eq_true q221; have p222 : 0 ≤ (x5_1 : Int) := of_decide_eq_true u2_; have q222 : x5_1 < (l1.length : Int) := of_decide_eq_true u2_; obtain ⟨ad222, A222_1, c222_1, e222, hx222_0, hx222_1, hl222_1, hi222_1⟩ := at_T98 HR1.out x5_1 p222 q222; cases e222; have HR222_1 := am_ hi222_1; have HC222_1 := am_ hl222_1; clear hi222_1 hl222_1; replace p222 := eq_true p222; replace q222 := eq_true q222; have p223 : 0 ≤ (x5_1 : Int) := of_decide_eq_true u2_; have q223 : x5_1 < (l0.length : Int) := of_decide_eq_true u2_; obtain ⟨ad223, A223_1, c223_1, e223, hx223_0, hx223_1, hl223_1, hi223_1⟩ := at_T98 HR0.out x5_1 p223 q223; obtain rfl : ad221 = ad223 := (by injection e223); have HR223_1 := am_ hi223_1; have HC223_1 := am_ hl223_1; clear hi223_1 hl223_1; replace p223 := eq_true p223; replace q223 := eq_true q223; have ea_ := Option.some.inj (hx221_1.symm.trans hx223_1); injection ea_ with ea_ en_ ec_
         subst ea_; subst ec_; clear en_; have p224 : 0 ≤ (x5_1 : Int) := of_decide_eq_true u2_; have q224 : x5_1 < (l1.length : Int) := of_decide_eq_true u2_; obtain ⟨ad224, A224_1, c224_1, e224, hx224_0, hx224_1, hl224_1, hi224_1⟩ := at_T98 HR1.out x5_1 p224 q224; obtain rfl : ad222 = ad224 := (by injection e224); have HR224_1 := am_ hi224_1; have HC224_1 := am_ hl224_1; clear hi224_1 hl224_1; replace p224 := eq_true p224; replace q224 := eq_true q224; have ea_ := Option.some.inj (hx222_1.symm.trans hx224_1); injection ea_ with ea_ en_ ec_
         subst ea_; subst ec_; clear en_; go_wp2_with (first | (go_at_call 58; (with_reducible refine (laws_sdInts.calls k1 _ _ ((rd_T98 l0 x5_1).f1) _ _ ((rd_T98 l1 x5_1).f1) false _ ?side1 ?side2 ?side3 ?side4 A8.out).mono ?_); (case side1 => exact u37_); (case side2 => exact HC223_1.out); (case side3 => exact u38_); (case side4 => exact HC224_1.out); rintro e w' ⟨rfl, ⟨nd, rfl⟩⟩; (try first | exact ⟨rfl, _, World.drewN_drewN _ _ _⟩ | exact ⟨rfl, _, Eq.trans (World.drewN_drewN _ _ _) (congrArg (World.drewN _) (Nat.add_assoc _ _ _))⟩)))
         repeat (go_quiet (first | (go_at_call 58; (with_reducible refine (laws_sdInts.calls k1 _ _ ((rd_T98 l0 x5_1).f1) _ _ ((rd_T98 l1 x5_1).f1) false _ ?side1 ?side2 ?side3 ?side4 A8.out).mono ?_); (case side1 => exact u37_); (case side2 => exact HC223_1.out); (case side3 => exact u38_); (case side4 => exact HC224_1.out); rintro e w' ⟨rfl, ⟨nd, rfl⟩⟩; (try first | exact ⟨rfl, _, World.drewN_drewN _ _ _⟩ | exact ⟨rfl, _, Eq.trans (World.drewN_drewN _ _ _) (congrArg (World.drewN _) (Nat.add_assoc _ _ _))⟩))); try go_wp2_with (first | (go_at_call 58; (with_reducible refine (laws_sdInts.calls k1 _ _ ((rd_T98 l0 x5_1).f1) _ _ ((rd_T98 l1 x5_1).f1) false _ ?side1 ?side2 ?side3 ?side4 A8.out).mono ?_); (case side1 => exact u37_); (case side2 => exact HC223_1.out); (case side3 => exact u38_); (case side4 => exact HC224_1.out); rintro e w' ⟨rfl, ⟨nd, rfl⟩⟩; (try first | exact ⟨rfl, _, World.drewN_drewN _ _ _⟩ | exact ⟨rfl, _, Eq.trans (World.drewN_drewN _ _ _) (congrArg (World.drewN _) (Nat.add_assoc _ _ _))⟩))))
         go_ret
         exact ⟨u15_, u13_⟩
       ·rw [if_neg c7] at H; have c7b0 : (((rd_T98 l0 x5_1).f0) == ((rd_T98 l1 x5_1).f0)) = false := beq_eq_false_iff_ne.mpr c7; have c7b1 : (((rd_T98 l0 x5_1).f0) != ((rd_T98 l1 x5_1).f0)) = true := bne_iff_ne.mpr c7; obtain rfl := Option.some.inj H; have p221 : 0 ≤ (x5_1 : Int) := of_decide_eq_true u2_; have q221 : x5_1 < (l0.length : Int) := of_decide_eq_true u2_; obtain ⟨ad221, A221_1, c221_1, e221, hx221_0, hx221_1, hl221_1, hi221_1⟩ := at_T98 HR0.out x5_1 p221 q221; cases e221; have HR221_1 := am_ hi221_1; have HC221_1 := am_ hl221_1; clear hi221_1 hl221_1; replace p221 := eq_true p221; replace q221 := eq_true q221; have p222 : 0 ≤ (x5_1 : Int) := of_decide_eq_true u2_; have q222 : x5_1 < (l1.length : Int) := of_decide_eq_true u2_; obtain ⟨ad222, A222_1, c222_1, e222, hx222_0, hx222_1, hl222_1, hi222_1⟩ := at_T98 HR1.out x5_1 p222 q222; cases e222; have HR222_1 := am_ hi222_1; have HC222_1 := am_ hl222_1; clear hi222_1 hl222_1; replace p222 := eq_true p222; replace q222 := eq_true q222; go_wp2; repeat (go_quiet (fail); try go_wp2)
        go_ret
        exact ⟨u15_, u13_⟩
      ·exact u116_
     ·exact u111_
    ·rw [if_neg c4] at H; have c4b0 : decide (x5_1 < (l0.length : Int)) = false := decide_eq_false c4; clear c4; obtain rfl := Option.some.inj H; go_wp2; repeat (go_quiet (fail); try go_wp2)
     go_ret
     exact ⟨u15_, u13_⟩
 ·rw [if_neg c3] at H; have c3b0 : ((l0.length : Int) == (l1.length : Int)) = false := beq_eq_false_iff_ne.mpr c3; have c3b1 : ((l0.length : Int) != (l1.length : Int)) = true := bne_iff_ne.mpr c3; have c3b2 : (l0.length == l1.length) = false := by first | simpa using c3 | (simp at c3 ⊢; omega)
  obtain rfl := Option.some.inj H; go_enter Tryz.func29, Tryz.ntmps29
  go_wp2; repeat (go_quiet (fail); try go_wp2)
  go_ret
  exact ⟨u15_, u13_⟩

end Go.Proofs.YtelcdhjdlgedeaaGreatDoor.PFnIndexNew
