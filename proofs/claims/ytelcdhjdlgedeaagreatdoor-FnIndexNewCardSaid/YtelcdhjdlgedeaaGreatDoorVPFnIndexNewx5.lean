/- Contracts of Go functions that the law FnIndexNew reaches: each is told as a plain Lean function, with the walk that shows it; no condition beyond what each states. Written by a program of this session round the kit's printer. -/
import Derived.Test.YtelcdhjdlgedeaaGreatDoorVPFnIndexNewx0
import Derived.Test.YtelcdhjdlgedeaaGreatDoorVPFnIndexNewx4
namespace Go.Proofs.YtelcdhjdlgedeaaGreatDoor.PFnIndexNew
open Go.RowKit Go.Proofs.YtelcdhjdlgedeaaGreatDoorW.PrintWords Go.Proofs.YtelcdhjdlgedeaaGreatDoorW.PrintLast Go.Proofs.YtelcdhjdlgedeaaGreatDoorW.PrintMore
attribute [local go_sem] run_str_geq run_str_leq max2_int min2_int max_two min_two max_three min_three max_four min_four   -- for this text's walks alone
set_option linter.unusedVariables false
set_option linter.unusedSimpArgs false

/-! ### spec_NameOk: function 56 -/
def spec_NameOk.l0 : Nat → ByteArray → Int → Option (Bool)
 | 0, _, _ => none
 | k + 1, x0, x3 => if x3 < (x0.size : Int) then (if 0 ≤ x3 then (if (bt x0 x3) ≥ 97 then (if ((bt x0 x3) ≤ 122) then (spec_NameOk.l0 k x0 (wrap64 (x3 + 1))) else (if x3 = 0 then (some false) else (if (bt x0 x3) < 48 then (some false) else (if (bt x0 x3) > 57 then (some false) else (spec_NameOk.l0 k x0 (wrap64 (x3 + 1))))))) else (if x3 = 0 then (some false) else (if (bt x0 x3) < 48 then (some false) else (if (bt x0 x3) > 57 then (some false) else (spec_NameOk.l0 k x0 (wrap64 (x3 + 1))))))) else (none)) else ((spec_l1In.f (x0.size : Int) 1 8).bind fun t196 => (some t196))
def spec_NameOk.f (k : Nat) (a0 : ByteArray) : Option (Bool) := spec_NameOk.l0 k a0 0
theorem spec_NameOk.mono_l : ∀ k, (∀ y0 y1, LeO (spec_NameOk.l0 k y0 y1) (spec_NameOk.l0 (k + 1) y0 y1))
 | 0 => fun _ _ r h => by simp [spec_NameOk.l0] at h
 | k + 1 => by
  have ih0 := spec_NameOk.mono_l k
  ·intro y0 y1; unfold spec_NameOk.l0
   repeat' first
   | (with_reducible exact ih0 _ _)
   | (with_reducible exact LeO.refl _)
   | (with_reducible exact LeO.none _)
   | (with_reducible refine LeO.ite ?_ ?_)
   | (with_reducible refine LeO.bind ?_ (fun _ => ?_))
   | exact ih0 _ _
   | exact LeO.none _
   | refine LeO.ite ?_ ?_
   | refine LeO.bind ?_ (fun _ => ?_)
theorem spec_NameOk.mono : ∀ a0 k, LeO (spec_NameOk.f k a0) (spec_NameOk.f (k + 1) a0) := by
 intro a0 k; have ih0 := spec_NameOk.mono_l k; unfold spec_NameOk.f
 repeat' first
   | (with_reducible exact ih0 _ _)
   | (with_reducible exact LeO.refl _)
   | (with_reducible exact LeO.none _)
   | (with_reducible refine LeO.ite ?_ ?_)
   | (with_reducible refine LeO.bind ?_ (fun _ => ?_))
   | exact ih0 _ _
   | exact LeO.none _
   | refine LeO.ite ?_ ?_
   | refine LeO.bind ?_ (fun _ => ?_)
set_option maxHeartbeats 8000000 in
set_option maxRecDepth 100000 in
theorem spec_NameOk.calls (k : Nat) (a0 : ByteArray) (r : Bool) (w : World) (h : spec_NameOk.f k a0 = some r) :
  Calls Tryz.prog 56 #[.string a0] w fun e w' => e = .returned (.bool r) ∧ Drawn0 w w' := by
 have H : (spec_NameOk.l0 k a0 0) = some r := h; clear h; have H' := am_ H; clear H; go_enter Tryz.func56, Tryz.ntmps56
 go_wp2; go_loopg [3] k (fun kq v3 w' => ∃ (x3_1 : Int), v3 = .int .i64 x3_1 ∧ Aside0 (spec_NameOk.l0 kq a0 x3_1 = some r) ∧ Aside0 (kq ≤ k) ∧ Drawn0 w w')
 case atStart => exact ⟨(0), u20_, H', ⟨Nat.le_refl _⟩, u13_⟩
 case round =>
  clear H'; obtain ⟨x3_1, rfl, HA, HK1, ⟨m1, rfl⟩⟩ := hrel; cases gk with
  | zero => exact absurd HA.out (by simp [spec_NameOk.l0])
  | succ k1 =>
   have H := HA.out; clear HA; simp only [spec_NameOk.l0] at H; by_cases c2 : x3_1 < (a0.size : Int)
   ·rw [if_pos c2] at H; have c2b0 : decide (x3_1 < (a0.size : Int)) = true := decide_eq_true c2; clear c2; by_cases c3 : 0 ≤ x3_1
    ·rw [if_pos c3] at H; have c3b0 : decide (0 ≤ x3_1) = true := decide_eq_true c3; clear c3; by_cases c5 : (bt a0 x3_1) ≥ 97
     ·rw [if_pos c5] at H; have c5b0 : decide (97 ≤ (bt a0 x3_1)) = true := decide_eq_true c5; clear c5; by_cases c7 : ((bt a0 x3_1) ≤ 122)
      ·rw [if_pos c7] at H; have c7b0 : decide ((bt a0 x3_1) ≤ 122) = true := decide_eq_true c7; clear c7; have H' := am_ H; clear H; have p4 : 0 ≤ (x3_1 : Int) := of_decide_eq_true u2_; have q4 : x3_1 < (a0.size : Int) := of_decide_eq_true u2_; have hx4 := bt_at a0 x3_1; replace p4 := eq_true p4; replace q4 := eq_true q4; have p6 : 0 ≤ (x3_1 : Int) := of_decide_eq_true u2_; have q6 : x3_1 < (a0.size : Int) := of_decide_eq_true u2_; have hx6 := bt_at a0 x3_1; replace p6 := eq_true p6; replace q6 := eq_true q6; go_wp2; go_roundg k1
       case measure => have := HK1.out; omega
       case rel => exact ⟨(wrap64 (x3_1 + 1)), u20_, H', ⟨u72_⟩, u13_⟩
      ·rw [if_neg c7] at H; have c7b0 : decide ((bt a0 x3_1) ≤ 122) = false := decide_eq_false c7; clear c7; by_cases c8 : x3_1 = 0
       ·rw [if_pos c8] at H; have c8b0 : (x3_1 == 0) = true := beq_iff_eq.mpr c8; have c8b1 : (x3_1 != 0) = false := bne_eq_false_iff_eq.mpr c8; clear c8; obtain rfl := Option.some.inj H; have p4 : 0 ≤ (x3_1 : Int) := of_decide_eq_true u2_; have q4 : x3_1 < (a0.size : Int) := of_decide_eq_true u2_; have hx4 := bt_at a0 x3_1; replace p4 := eq_true p4; replace q4 := eq_true q4; have p6 : 0 ≤ (x3_1 : Int) := of_decide_eq_true u2_; have q6 : x3_1 < (a0.size : Int) := of_decide_eq_true u2_; have hx6 := bt_at a0 x3_1; replace p6 := eq_true p6; replace q6 := eq_true q6; go_wp2; go_ret
        exact ⟨u15_, u13_⟩
       ·rw [if_neg c8] at H; have c8b0 : (x3_1 == 0) = false := beq_eq_false_iff_ne.mpr c8; have c8b1 : (x3_1 != 0) = true := bne_iff_ne.mpr c8; by_cases c10 : (bt a0 x3_1) < 48
        ·rw [if_pos c10] at H; have c10b0 : decide ((bt a0 x3_1) < 48) = true := decide_eq_true c10; clear c10; obtain rfl := Option.some.inj H; have p4 : 0 ≤ (x3_1 : Int) := of_decide_eq_true u2_; have q4 : x3_1 < (a0.size : Int) := of_decide_eq_true u2_; have hx4 := bt_at a0 x3_1; replace p4 := eq_true p4; replace q4 := eq_true q4; have p6 : 0 ≤ (x3_1 : Int) := of_decide_eq_true u2_; have q6 : x3_1 < (a0.size : Int) := of_decide_eq_true u2_; have hx6 := bt_at a0 x3_1; replace p6 := eq_true p6; replace q6 := eq_true q6; have p9 : 0 ≤ (x3_1 : Int) := of_decide_eq_true u2_; have q9 : x3_1 < (a0.size : Int) := of_decide_eq_true u2_; have hx9 := bt_at a0 x3_1; replace p9 := eq_true p9; replace q9 := eq_true q9; go_wp2; go_ret
         exact ⟨u15_, u13_⟩
        ·rw [if_neg c10] at H; have c10b0 : decide ((bt a0 x3_1) < 48) = false := decide_eq_false c10; clear c10; by_cases c12 : (bt a0 x3_1) > 57
         ·rw [if_pos c12] at H; have c12b0 : decide (57 < (bt a0 x3_1)) = true := decide_eq_true c12; clear c12; obtain rfl := Option.some.inj H; have p4 : 0 ≤ (x3_1 : Int) := of_decide_eq_true u2_; have q4 : x3_1 < (a0.size : Int) := of_decide_eq_true u2_; have hx4 := bt_at a0 x3_1; replace p4 := eq_true p4; replace q4 := eq_true q4; have p6 : 0 ≤ (x3_1 : Int) := of_decide_eq_true u2_; have q6 : x3_1 < (a0.size : Int) := of_decide_eq_true u2_; have hx6 := bt_at a0 x3_1; replace p6 := eq_true p6; replace q6 := eq_true q6; have p9 : 0 ≤ (x3_1 : Int) := of_decide_eq_true u2_; have q9 : x3_1 < (a0.size : Int) := of_decide_eq_true u2_; have hx9 := bt_at a0 x3_1; replace p9 := eq_true p9; replace q9 := eq_true q9; have p11 : 0 ≤ (x3_1 : Int) := of_decide_eq_true u2_; have q11 : x3_1 < (a0.size : Int) := of_decide_eq_true u2_; have hx11 := bt_at a0 x3_1; replace p11 := eq_true p11; replace q11 := eq_true q11; go_wp2; go_ret
          exact ⟨u15_, u13_⟩
         ·rw [if_neg c12] at H; have c12b0 : decide (57 < (bt a0 x3_1)) = false := decide_eq_false c12; clear c12; have H' := am_ H; clear H; have p4 : 0 ≤ (x3_1 : Int) := of_decide_eq_true u2_; have q4 : x3_1 < (a0.size : Int) := of_decide_eq_true u2_; have hx4 := bt_at a0 x3_1; replace p4 := eq_true p4; replace q4 := eq_true q4; have p6 : 0 ≤ (x3_1 : Int) := of_decide_eq_true u2_; have q6 : x3_1 < (a0.size : Int) := of_decide_eq_true u2_; have hx6 := bt_at a0 x3_1; replace p6 := eq_true p6; replace q6 := eq_true q6; have p9 : 0 ≤ (x3_1 : Int) := of_decide_eq_true u2_; have q9 : x3_1 < (a0.size : Int) := of_decide_eq_true u2_; have hx9 := bt_at a0 x3_1; replace p9 := eq_true p9; replace q9 := eq_true q9; have p11 : 0 ≤ (x3_1 : Int) := of_decide_eq_true u2_; have q11 : x3_1 < (a0.size : Int) := of_decide_eq_true u2_; have hx11 := bt_at a0 x3_1; replace p11 := eq_true p11; replace q11 := eq_true q11; go_wp2; go_roundg k1
          case measure => have := HK1.out; omega
          case rel => exact ⟨(wrap64 (x3_1 + 1)), u20_, H', ⟨u72_⟩, u13_⟩
     ·rw [if_neg c5] at H; have c5b0 : decide (97 ≤ (bt a0 x3_1)) = false := decide_eq_false c5; clear c5; by_cases c13 : x3_1 = 0
      ·rw [if_pos c13] at H; have c13b0 : (x3_1 == 0) = true := beq_iff_eq.mpr c13; have c13b1 : (x3_1 != 0) = false := bne_eq_false_iff_eq.mpr c13; clear c13; obtain rfl := Option.some.inj H; have p4 : 0 ≤ (x3_1 : Int) := of_decide_eq_true u2_; have q4 : x3_1 < (a0.size : Int) := of_decide_eq_true u2_; have hx4 := bt_at a0 x3_1; replace p4 := eq_true p4; replace q4 := eq_true q4; go_wp2; go_ret
       exact ⟨u15_, u13_⟩
      ·rw [if_neg c13] at H; have c13b0 : (x3_1 == 0) = false := beq_eq_false_iff_ne.mpr c13; have c13b1 : (x3_1 != 0) = true := bne_iff_ne.mpr c13; by_cases c15 : (bt a0 x3_1) < 48
       ·rw [if_pos c15] at H; have c15b0 : decide ((bt a0 x3_1) < 48) = true := decide_eq_true c15; clear c15; obtain rfl := Option.some.inj H; have p4 : 0 ≤ (x3_1 : Int) := of_decide_eq_true u2_; have q4 : x3_1 < (a0.size : Int) := of_decide_eq_true u2_; have hx4 := bt_at a0 x3_1; replace p4 := eq_true p4; replace q4 := eq_true q4; have p14 : 0 ≤ (x3_1 : Int) := of_decide_eq_true u2_; have q14 : x3_1 < (a0.size : Int) := of_decide_eq_true u2_; have hx14 := bt_at a0 x3_1; replace p14 := eq_true p14; replace q14 := eq_true q14; go_wp2; go_ret
        exact ⟨u15_, u13_⟩
       ·rw [if_neg c15] at H; have c15b0 : decide ((bt a0 x3_1) < 48) = false := decide_eq_false c15; clear c15; by_cases c17 : (bt a0 x3_1) > 57
        ·rw [if_pos c17] at H; have c17b0 : decide (57 < (bt a0 x3_1)) = true := decide_eq_true c17; clear c17; obtain rfl := Option.some.inj H; have p4 : 0 ≤ (x3_1 : Int) := of_decide_eq_true u2_; have q4 : x3_1 < (a0.size : Int) := of_decide_eq_true u2_; have hx4 := bt_at a0 x3_1; replace p4 := eq_true p4; replace q4 := eq_true q4; have p14 : 0 ≤ (x3_1 : Int) := of_decide_eq_true u2_; have q14 : x3_1 < (a0.size : Int) := of_decide_eq_true u2_; have hx14 := bt_at a0 x3_1; replace p14 := eq_true p14; replace q14 := eq_true q14; have p16 : 0 ≤ (x3_1 : Int) := of_decide_eq_true u2_; have q16 : x3_1 < (a0.size : Int) := of_decide_eq_true u2_; have hx16 := bt_at a0 x3_1; replace p16 := eq_true p16; replace q16 := eq_true q16; go_wp2; go_ret
         exact ⟨u15_, u13_⟩
        ·rw [if_neg c17] at H; have c17b0 : decide (57 < (bt a0 x3_1)) = false := decide_eq_false c17; clear c17; have H' := am_ H; clear H; have p4 : 0 ≤ (x3_1 : Int) := of_decide_eq_true u2_; have q4 : x3_1 < (a0.size : Int) := of_decide_eq_true u2_; have hx4 := bt_at a0 x3_1; replace p4 := eq_true p4; replace q4 := eq_true q4; have p14 : 0 ≤ (x3_1 : Int) := of_decide_eq_true u2_; have q14 : x3_1 < (a0.size : Int) := of_decide_eq_true u2_; have hx14 := bt_at a0 x3_1; replace p14 := eq_true p14; replace q14 := eq_true q14; have p16 : 0 ≤ (x3_1 : Int) := of_decide_eq_true u2_; have q16 : x3_1 < (a0.size : Int) := of_decide_eq_true u2_; have hx16 := bt_at a0 x3_1; replace p16 := eq_true p16; replace q16 := eq_true q16; go_wp2; go_roundg k1
         case measure => have := HK1.out; omega
         case rel => exact ⟨(wrap64 (x3_1 + 1)), u20_, H', ⟨u72_⟩, u13_⟩
    ·exact u115_
   ·rw [if_neg c2] at H; have c2b0 : decide (x3_1 < (a0.size : Int)) = false := decide_eq_false c2; clear c2; replace H := Option.bind_eq_some_iff.mp H; obtain ⟨t196, A180, H⟩ := H; replace H : (some t196) = some r := H; have A18 := am_ A180; clear A180; obtain rfl := Option.some.inj H; go_wp2_with (first | ((with_reducible refine gate_callee (f := 55) rfl ?_); refine goesL_ (some 41) rfl rfl Tryz.func55 u10_ rfl #[.int .i64 (a0.size : Int), .int .i64 1, .int .i64 8] rfl u3_ ?_; (with_reducible refine (spec_l1In.calls (a0.size : Int) 1 8 t196 _ A18.out).mono ?_); rintro e w' ⟨rfl, ⟨nd, rfl⟩⟩; refine ⟨_, rfl, ?_⟩))
    go_ret
    exact ⟨u15_, u13_⟩

/-! ### spec_l2Field: function 57 -/
def spec_l2Field.l0 : Nat → List (S79) → ByteArray → Int → Option (Int)
 | 0, _, _, _ => none
 | k + 1, x0, x1, x5 => if x5 < (x0.length : Int) then (if 0 ≤ x5 then (if ((rd_T79 x0 x5).f0).toList = x1.toList then (some x5) else (spec_l2Field.l0 k x0 x1 (wrap64 (x5 + 1)))) else (none)) else (some (-1))
def spec_l2Field.f (k : Nat) (l0 : List (S79)) (a1 : ByteArray) : Option (Int) := spec_l2Field.l0 k l0 a1 0
theorem spec_l2Field.mono_l : ∀ k, (∀ y0 y1 y2, LeO (spec_l2Field.l0 k y0 y1 y2) (spec_l2Field.l0 (k + 1) y0 y1 y2))
 | 0 => fun _ _ _ r h => by simp [spec_l2Field.l0] at h
 | k + 1 => by
  have ih0 := spec_l2Field.mono_l k
  ·intro y0 y1 y2; unfold spec_l2Field.l0
   repeat' first
   | (with_reducible exact ih0 _ _ _)
   | (with_reducible exact LeO.refl _)
   | (with_reducible exact LeO.none _)
   | (with_reducible refine LeO.ite ?_ ?_)
   | (with_reducible refine LeO.bind ?_ (fun _ => ?_))
   | exact ih0 _ _ _
   | exact LeO.none _
   | refine LeO.ite ?_ ?_
   | refine LeO.bind ?_ (fun _ => ?_)
theorem spec_l2Field.mono : ∀ a0 a1 k, LeO (spec_l2Field.f k a0 a1) (spec_l2Field.f (k + 1) a0 a1) := by
 intro a0 a1 k; have ih0 := spec_l2Field.mono_l k; unfold spec_l2Field.f
 repeat' first
   | (with_reducible exact ih0 _ _ _)
   | (with_reducible exact LeO.refl _)
   | (with_reducible exact LeO.none _)
   | (with_reducible refine LeO.ite ?_ ?_)
   | (with_reducible refine LeO.bind ?_ (fun _ => ?_))
   | exact ih0 _ _ _
   | exact LeO.none _
   | refine LeO.ite ?_ ?_
   | refine LeO.bind ?_ (fun _ => ?_)
set_option maxHeartbeats 8000000 in
set_option maxRecDepth 100000 in
theorem spec_l2Field.calls (k : Nat) (A0 : Option Addr) (c0 : Nat) (l0 : List (S79)) (a1 : ByteArray) (r : Int) (w : World) (hr0 : Kd.C k79 w A0 l0.length l0) (hc0 : l0.length ≤ c0) (h : spec_l2Field.f k l0 a1 = some r) :
  Calls Tryz.prog 57 #[.slice A0 l0.length c0, .string a1] w fun e w' => e = .returned (.int .i64 r) ∧ Drawn0 w w' := by
 have HR0 := am_ hr0; have HC0 := am_ hc0; clear hr0 hc0; have H : (spec_l2Field.l0 k l0 a1 0) = some r := h; clear h; have H' := am_ H; clear H; go_enter Tryz.func57, Tryz.ntmps57
 go_wp2; go_loopg [5] k (fun kq v5 w' => ∃ (x5_1 : Int), v5 = .int .i64 x5_1 ∧ Aside0 (spec_l2Field.l0 kq l0 a1 x5_1 = some r) ∧ Aside0 (kq ≤ k) ∧ Drawn0 w w')
 case atStart => exact ⟨(0), u20_, H', ⟨Nat.le_refl _⟩, u13_⟩
 case round =>
  clear H'; try clear p2
  obtain ⟨x5_1, rfl, HA, HK1, ⟨m1, rfl⟩⟩ := hrel; cases gk with
  | zero => exact absurd HA.out (by simp [spec_l2Field.l0])
  | succ k1 =>
   have H := HA.out; clear HA; simp only [spec_l2Field.l0] at H; by_cases c3 : x5_1 < (l0.length : Int)
   ·rw [if_pos c3] at H; have c3b0 : decide (x5_1 < (l0.length : Int)) = true := decide_eq_true c3; clear c3; by_cases c4 : 0 ≤ x5_1
    ·rw [if_pos c4] at H; have c4b0 : decide (0 ≤ x5_1) = true := decide_eq_true c4; clear c4; by_cases c5 : ((rd_T79 l0 x5_1).f0).toList = a1.toList
     ·rw [if_pos c5] at H; have c5b0 : (((rd_T79 l0 x5_1).f0).toList == a1.toList) = true := beq_iff_eq.mpr c5; have c5b1 : (((rd_T79 l0 x5_1).f0).toList != a1.toList) = false := bne_eq_false_iff_eq.mpr c5; clear c5; obtain rfl := Option.some.inj H; have p197 : 0 ≤ (x5_1 : Int) := of_decide_eq_true u2_; have q197 : x5_1 < (l0.length : Int) := of_decide_eq_true u2_; obtain ⟨ad197, e197, hx197_0, hx197_1, hx197_2⟩ := at_T79 HR0.out x5_1 p197 q197; cases e197; replace p197 := eq_true p197; replace q197 := eq_true q197; go_wp2; go_ret
      exact ⟨u15_, u13_⟩
     ·rw [if_neg c5] at H; have c5b0 : (((rd_T79 l0 x5_1).f0).toList == a1.toList) = false := beq_eq_false_iff_ne.mpr c5; have c5b1 : (((rd_T79 l0 x5_1).f0).toList != a1.toList) = true := bne_iff_ne.mpr c5; have H' := am_ H; clear H; have p197 : 0 ≤ (x5_1 : Int) := of_decide_eq_true u2_; have q197 : x5_1 < (l0.length : Int) := of_decide_eq_true u2_; obtain ⟨ad197, e197, hx197_0, hx197_1, hx197_2⟩ := at_T79 HR0.out x5_1 p197 q197; cases e197; replace p197 := eq_true p197; replace q197 := eq_true q197; go_wp2; go_roundg k1
      case measure => have := HK1.out; omega
      case rel => exact ⟨(wrap64 (x5_1 + 1)), u20_, H', ⟨u72_⟩, u13_⟩
    ·exact u112_
   ·rw [if_neg c3] at H; have c3b0 : decide (x5_1 < (l0.length : Int)) = false := decide_eq_false c3; clear c3; obtain rfl := Option.some.inj H; go_wp2; go_ret
    exact ⟨u15_, u13_⟩

/-! ### spec_FieldsOk: function 26 -/
mutual
def spec_FieldsOk.l0 : Nat → List (S79) → Int → Option (Bool)
 | 0, _, _ => none
 | k + 1, x0, x3 => if x3 < (x0.length : Int) then (if 0 ≤ x3 then (if ((rd_T79 x0 x3).f1) = 1 then ((spec_l1In.f ((rd_T79 x0 x3).f2) 1 9).bind fun t201 => (spec_FieldsOk.j1 k x0 x3 t201 ((rd_T79 x0 x3).f0) ((rd_T79 x0 x3).f1) ((rd_T79 x0 x3).f2))) else (spec_FieldsOk.j1 k x0 x3 false ((rd_T79 x0 x3).f0) ((rd_T79 x0 x3).f1) ((rd_T79 x0 x3).f2))) else (none)) else ((spec_l1In.f (x0.length : Int) 1 4).bind fun t198 => (some t198))
def spec_FieldsOk.j1 : Nat → List (S79) → Int → Bool → ByteArray → Int → Int → Option (Bool)
 | 0, _, _, _, _, _, _ => none
 | k + 1, x0, x3, x5, x201000, x201001, x201002 => (spec_l1In.f x201001 2 3).bind fun t202 => (if t202 = true then (spec_FieldsOk.j2 k x0 x3 x5 (x201002 == 0) x201000 x201001 x201002) else (spec_FieldsOk.j2 k x0 x3 x5 false x201000 x201001 x201002))
def spec_FieldsOk.j2 : Nat → List (S79) → Int → Bool → Bool → ByteArray → Int → Int → Option (Bool)
 | 0, _, _, _, _, _, _, _ => none
 | k + 1, x0, x3, x5, x6, x201000, x201001, x201002 => (spec_NameOk.f k x201000).bind fun t203 => (if t203 = true then ((spec_l2Field.f k x0 x201000).bind fun t204 => (if t204 = x3 then (if x5 = true then (spec_FieldsOk.l0 k x0 (wrap64 (x3 + 1))) else (if x6 = true then (spec_FieldsOk.l0 k x0 (wrap64 (x3 + 1))) else (some false))) else (some false))) else (some false))
end
def spec_FieldsOk.f (k : Nat) (l0 : List (S79)) : Option (Bool) := spec_FieldsOk.l0 k l0 0
theorem spec_FieldsOk.mono_l : ∀ k, (∀ y0 y1, LeO (spec_FieldsOk.l0 k y0 y1) (spec_FieldsOk.l0 (k + 1) y0 y1)) ∧ (∀ y0 y1 y2 y3 y4 y5, LeO (spec_FieldsOk.j1 k y0 y1 y2 y3 y4 y5) (spec_FieldsOk.j1 (k + 1) y0 y1 y2 y3 y4 y5)) ∧ (∀ y0 y1 y2 y3 y4 y5 y6, LeO (spec_FieldsOk.j2 k y0 y1 y2 y3 y4 y5 y6) (spec_FieldsOk.j2 (k + 1) y0 y1 y2 y3 y4 y5 y6))
 | 0 => ⟨fun _ _ r h => by simp [spec_FieldsOk.l0] at h, fun _ _ _ _ _ _ r h => by simp [spec_FieldsOk.j1] at h, fun _ _ _ _ _ _ _ r h => by simp [spec_FieldsOk.j2] at h⟩
 | k + 1 => by
  obtain ⟨ih0, ih1, ih2⟩ := spec_FieldsOk.mono_l k; refine ⟨?_, ?_, ?_⟩
  ·intro y0 y1; unfold spec_FieldsOk.l0
   repeat' first
   | (with_reducible exact ih0 _ _)
   | (with_reducible exact ih1 _ _ _ _ _ _)
   | (with_reducible exact ih2 _ _ _ _ _ _ _)
   | (with_reducible exact spec_NameOk.mono _ _)
   | (with_reducible exact spec_l2Field.mono _ _ _)
   | (with_reducible exact LeO.refl _)
   | (with_reducible exact LeO.none _)
   | (with_reducible refine LeO.ite ?_ ?_)
   | (with_reducible refine LeO.bind ?_ (fun _ => ?_))
   | exact ih0 _ _
   | exact ih1 _ _ _ _ _ _
   | exact ih2 _ _ _ _ _ _ _
   | exact spec_NameOk.mono _ _
   | exact spec_l2Field.mono _ _ _
   | exact LeO.none _
   | refine LeO.ite ?_ ?_
   | refine LeO.bind ?_ (fun _ => ?_)
  ·intro y0 y1 y2 y3 y4 y5; unfold spec_FieldsOk.j1
   repeat' first
   | (with_reducible exact ih0 _ _)
   | (with_reducible exact ih1 _ _ _ _ _ _)
   | (with_reducible exact ih2 _ _ _ _ _ _ _)
   | (with_reducible exact spec_NameOk.mono _ _)
   | (with_reducible exact spec_l2Field.mono _ _ _)
   | (with_reducible exact LeO.refl _)
   | (with_reducible exact LeO.none _)
   | (with_reducible refine LeO.ite ?_ ?_)
   | (with_reducible refine LeO.bind ?_ (fun _ => ?_))
   | exact ih0 _ _
   | exact ih1 _ _ _ _ _ _
   | exact ih2 _ _ _ _ _ _ _
   | exact spec_NameOk.mono _ _
   | exact spec_l2Field.mono _ _ _
   | exact LeO.none _
   | refine LeO.ite ?_ ?_
   | refine LeO.bind ?_ (fun _ => ?_)
  ·intro y0 y1 y2 y3 y4 y5 y6; unfold spec_FieldsOk.j2
   repeat' first
   | (with_reducible exact ih0 _ _)
   | (with_reducible exact ih1 _ _ _ _ _ _)
   | (with_reducible exact ih2 _ _ _ _ _ _ _)
   | (with_reducible exact spec_NameOk.mono _ _)
   | (with_reducible exact spec_l2Field.mono _ _ _)
   | (with_reducible exact LeO.refl _)
   | (with_reducible exact LeO.none _)
   | (with_reducible refine LeO.ite ?_ ?_)
   | (with_reducible refine LeO.bind ?_ (fun _ => ?_))
   | exact ih0 _ _
   | exact ih1 _ _ _ _ _ _
   | exact ih2 _ _ _ _ _ _ _
   | exact spec_NameOk.mono _ _
   | exact spec_l2Field.mono _ _ _
   | exact LeO.none _
   | refine LeO.ite ?_ ?_
   | refine LeO.bind ?_ (fun _ => ?_)
theorem spec_FieldsOk.mono : ∀ a0 k, LeO (spec_FieldsOk.f k a0) (spec_FieldsOk.f (k + 1) a0) := by
 intro a0 k; obtain ⟨ih0, ih1, ih2⟩ := spec_FieldsOk.mono_l k; unfold spec_FieldsOk.f
 repeat' first
   | (with_reducible exact ih0 _ _)
   | (with_reducible exact ih1 _ _ _ _ _ _)
   | (with_reducible exact ih2 _ _ _ _ _ _ _)
   | (with_reducible exact spec_NameOk.mono _ _)
   | (with_reducible exact spec_l2Field.mono _ _ _)
   | (with_reducible exact LeO.refl _)
   | (with_reducible exact LeO.none _)
   | (with_reducible refine LeO.ite ?_ ?_)
   | (with_reducible refine LeO.bind ?_ (fun _ => ?_))
   | exact ih0 _ _
   | exact ih1 _ _ _ _ _ _
   | exact ih2 _ _ _ _ _ _ _
   | exact spec_NameOk.mono _ _
   | exact spec_l2Field.mono _ _ _
   | exact LeO.none _
   | refine LeO.ite ?_ ?_
   | refine LeO.bind ?_ (fun _ => ?_)
set_option maxHeartbeats 8000000 in
set_option maxRecDepth 100000 in
theorem spec_FieldsOk.calls (k : Nat) (A0 : Option Addr) (c0 : Nat) (l0 : List (S79)) (r : Bool) (w : World) (hr0 : Kd.C k79 w A0 l0.length l0) (hc0 : l0.length ≤ c0) (h : spec_FieldsOk.f k l0 = some r) :
  Calls Tryz.prog 26 #[.slice A0 l0.length c0] w fun e w' => e = .returned (.bool r) ∧ Below w.heap.size w w' := by
 have hu79 := Tryz.underlying79; have HR0 := am_ hr0; have HC0 := am_ hc0; clear hr0 hc0; have HB := am_ (Below.refl w.heap.size w); have H : (spec_FieldsOk.l0 k l0 0) = some r := h; clear h; have H' := am_ H; clear H; go_enter Tryz.func26, Tryz.ntmps26
 go_wp2; go_loopg [3] k (fun kq v3 w' => ∃ (x3_1 : Int), v3 = .int .i64 x3_1 ∧ Aside0 (spec_FieldsOk.l0 kq l0 x3_1 = some r) ∧ Aside0 (kq ≤ k) ∧ Aside0 (Below w.heap.size w w'))
 case atStart => exact ⟨(0), u20_, H', ⟨Nat.le_refl _⟩, ⟨u5_⟩⟩
 case round =>
  clear H'; obtain ⟨x3_1, rfl, HA, HK1, HB⟩ := hrel; cases gk with
  | zero => exact absurd HA.out (by simp [spec_FieldsOk.l0])
  | succ k1 =>
   have H := HA.out; clear HA; simp only [spec_FieldsOk.l0] at H; by_cases c2 : x3_1 < (l0.length : Int)
   ·rw [if_pos c2] at H; have c2b0 : decide (x3_1 < (l0.length : Int)) = true := decide_eq_true c2; clear c2; by_cases c3 : 0 ≤ x3_1
    ·rw [if_pos c3] at H; have c3b0 : decide (0 ≤ x3_1) = true := decide_eq_true c3; clear c3; have HC4 := am_ H; clear H; have p199 : 0 ≤ (x3_1 : Int) := of_decide_eq_true u2_; have q199 : x3_1 < (l0.length : Int) := of_decide_eq_true u2_; obtain ⟨ad199, e199, hx199_0, hx199_1, hx199_2⟩ := at_T79 HR0.out x3_1 p199 q199; cases e199; replace hx199_0 := (HB.out.cell (World.block_lt_of_cell? w _ hx199_0)).trans hx199_0; replace hx199_1 := (HB.out.cell (World.block_lt_of_cell? w _ hx199_1)).trans hx199_1; replace hx199_2 := (HB.out.cell (World.block_lt_of_cell? w _ hx199_2)).trans hx199_2; replace p199 := eq_true p199; replace q199 := eq_true q199; go_upto_region 5 with (first | ((with_reducible refine gate_dst (N := 4) rfl ?_); refine box_event ?hg (N := 4) ?hd (cs := #[.string (⟨#[]⟩ : ByteArray), .int .i64 0, .int .i64 0]) (t := 79) ?hr ?_; (case hd => rfl); (case hg => rfl); (case hr => exact u30_); intro gb200 hg w5 hbox hb; have BK200 := am_ (hbox); have GW200 := am_ ((by rw [hg]; exact (below_size u5_) : w.heap.size ≤ gb200)); have GE200 := GW200; replace HB := am_ (below_step u5_ hb); clear hb hbox hg; have hcz6_0 : w5.cell? ⟨gb200, 0, none⟩ = some (.string (⟨#[]⟩ : ByteArray)) := (blk_cell BK200.out 0).trans rfl; have hcz6_1 : w5.cell? ⟨gb200, 1, none⟩ = some (.int .i64 0) := (blk_cell BK200.out 1).trans rfl; have hcz6_2 : w5.cell? ⟨gb200, 2, none⟩ = some (.int .i64 0) := (blk_cell BK200.out 2).trans rfl; have hfz6_0 := blk_frozen BK200.out 0; have hfz6_1 := blk_frozen BK200.out 1; have hfz6_2 := blk_frozen BK200.out 2))
     (try simp only [Act.put, List.setIfInBounds_toArray, List.set_cons_zero, List.set_cons_succ])
     go_cut [5] (fun v5 wc => ∃ (kq : Nat) (x5_3 : Bool), v5 = .bool x5_3 ∧ Aside0 (spec_FieldsOk.j1 kq l0 x3_1 x5_3 ((rd_T79 l0 x3_1).f0) ((rd_T79 l0 x3_1).f1) ((rd_T79 l0 x3_1).f2) = some r) ∧ Aside0 (kq ≤ k1) ∧ Aside0 (wc.heap[gb200]? = some (.cells #[.string ((rd_T79 l0 x3_1).f0), .int .i64 ((rd_T79 l0 x3_1).f1), .int .i64 ((rd_T79 l0 x3_1).f2)] 79 (0, 0))) ∧ Aside0 (Below w.heap.size w wc))
     case first =>
      have H := HC4.out; clear HC4; by_cases c7 : ((rd_T79 l0 x3_1).f1) = 1
      ·rw [if_pos c7] at H; have c7b0 : (((rd_T79 l0 x3_1).f1) == 1) = true := beq_iff_eq.mpr c7; have c7b1 : (((rd_T79 l0 x3_1).f1) != 1) = false := bne_eq_false_iff_eq.mpr c7; clear c7; (first | rw [c7b0] | (simp only [i64_w, i32_w]; rw [c7b0]) | skip)
       replace H := Option.bind_eq_some_iff.mp H; obtain ⟨t201, A80, H⟩ := H; replace H : (spec_FieldsOk.j1 k1 l0 x3_1 t201 ((rd_T79 l0 x3_1).f0) ((rd_T79 l0 x3_1).f1) ((rd_T79 l0 x3_1).f2)) = some r := H; have A8 := am_ A80; clear A80; have H' := am_ H; clear H; have hcz9_0 : w5.cell? ⟨gb200, 0, none⟩ = some (.string (⟨#[]⟩ : ByteArray)) := (blk_cell BK200.out 0).trans rfl; have hcz9_1 : w5.cell? ⟨gb200, 1, none⟩ = some (.int .i64 0) := (blk_cell BK200.out 1).trans rfl; have hcz9_2 : w5.cell? ⟨gb200, 2, none⟩ = some (.int .i64 0) := (blk_cell BK200.out 2).trans rfl; have hfz9_0 := blk_frozen BK200.out 0; have hfz9_1 := blk_frozen BK200.out 1; have hfz9_2 := blk_frozen BK200.out 2; go_wp2_with (first | (go_at_call 55; (with_reducible refine (spec_l1In.calls ((rd_T79 l0 x3_1).f2) 1 9 t201 _ A8.out).mono ?_); rintro e w' ⟨rfl, ⟨nd, rfl⟩⟩))
       go_meet
       case rel => exact ⟨_, (t201), u20_, H', ⟨u79_⟩, ⟨u41_⟩, ⟨u21_⟩⟩
      ·rw [if_neg c7] at H; have c7b0 : (((rd_T79 l0 x3_1).f1) == 1) = false := beq_eq_false_iff_ne.mpr c7; have c7b1 : (((rd_T79 l0 x3_1).f1) != 1) = true := bne_iff_ne.mpr c7; (first | rw [c7b0] | (simp only [i64_w, i32_w]; rw [c7b0]) | skip)
       have H' := am_ H; clear H; have hcz10_0 : w5.cell? ⟨gb200, 0, none⟩ = some (.string (⟨#[]⟩ : ByteArray)) := (blk_cell BK200.out 0).trans rfl; have hcz10_1 : w5.cell? ⟨gb200, 1, none⟩ = some (.int .i64 0) := (blk_cell BK200.out 1).trans rfl; have hcz10_2 : w5.cell? ⟨gb200, 2, none⟩ = some (.int .i64 0) := (blk_cell BK200.out 2).trans rfl; have hfz10_0 := blk_frozen BK200.out 0; have hfz10_1 := blk_frozen BK200.out 1; have hfz10_2 := blk_frozen BK200.out 2; go_wp2; go_meet
       case rel => exact ⟨_, (false), u20_, H', ⟨u79_⟩, ⟨u41_⟩, ⟨u21_⟩⟩
     case rest =>
      clear HC4; try clear p1
      try clear q1
      try clear hx1
      try clear c2
      try clear c2b0
      try clear p2
      try clear c3
      try clear c3b0
      try clear c7
      try clear c7b0
      try clear c7b1
      try clear hcz10_0
      try clear hcz10_1
      try clear hcz10_2
      try clear hcz6_0
      try clear hcz6_1
      try clear hcz6_2
      try clear hcz9_0
      try clear hcz9_1
      try clear hcz9_2
      try clear hfz10_0
      try clear hfz10_1
      try clear hfz10_2
      try clear hfz6_0
      try clear hfz6_1
      try clear hfz6_2
      try clear hfz9_0
      try clear hfz9_1
      try clear hfz9_2
      try clear hx199_0
      try clear hx199_1
      try clear hx199_2
      try clear p199
      try clear q199
      obtain ⟨kq, x5_3, rfl, HA, HJ3, BK200, HB⟩ := hcut; cases kq with
      | zero => exact absurd HA.out (by simp [spec_FieldsOk.j1])
      | succ kj3 =>
       have H := HA.out; clear HA; simp only [spec_FieldsOk.j1] at H; have HC11 := am_ H; clear H; go_upto_region 6 with (fail)
       go_cut [6] (fun v6 wc => ∃ (kq : Nat) (x6_10 : Bool), v6 = .bool x6_10 ∧ Aside0 (spec_FieldsOk.j2 kq l0 x3_1 x5_3 x6_10 ((rd_T79 l0 x3_1).f0) ((rd_T79 l0 x3_1).f1) ((rd_T79 l0 x3_1).f2) = some r) ∧ Aside0 (kq ≤ kj3) ∧ Aside0 (wc.heap[gb200]? = some (.cells #[.string ((rd_T79 l0 x3_1).f0), .int .i64 ((rd_T79 l0 x3_1).f1), .int .i64 ((rd_T79 l0 x3_1).f2)] 79 (0, 0))) ∧ Aside0 (Below w.heap.size w wc))
       case first =>
        have H := HC11.out; clear HC11; replace H := Option.bind_eq_some_iff.mp H; obtain ⟨t202, A120, H⟩ := H; replace H : (if t202 = true then (spec_FieldsOk.j2 kj3 l0 x3_1 x5_3 (((rd_T79 l0 x3_1).f2) == 0) ((rd_T79 l0 x3_1).f0) ((rd_T79 l0 x3_1).f1) ((rd_T79 l0 x3_1).f2)) else (spec_FieldsOk.j2 kj3 l0 x3_1 x5_3 false ((rd_T79 l0 x3_1).f0) ((rd_T79 l0 x3_1).f1) ((rd_T79 l0 x3_1).f2))) = some r := H; have A12 := am_ A120; clear A120; by_cases c13 : t202 = true
        ·subst c13; rw [if_pos rfl] at H; have H' := am_ H; clear H; have hcz14_0 : wc.cell? ⟨gb200, 0, none⟩ = some (.string ((rd_T79 l0 x3_1).f0)) := (blk_cell BK200.out 0).trans rfl; have hcz14_1 : wc.cell? ⟨gb200, 1, none⟩ = some (.int .i64 ((rd_T79 l0 x3_1).f1)) := (blk_cell BK200.out 1).trans rfl; have hcz14_2 : wc.cell? ⟨gb200, 2, none⟩ = some (.int .i64 ((rd_T79 l0 x3_1).f2)) := (blk_cell BK200.out 2).trans rfl; have hfz14_0 := blk_frozen BK200.out 0; have hfz14_1 := blk_frozen BK200.out 1; have hfz14_2 := blk_frozen BK200.out 2; go_wp2_with (first | ((with_reducible refine gate_callee (f := 55) rfl ?_); refine goesL_ (some 27) rfl rfl Tryz.func55 u10_ rfl #[.int .i64 ((rd_T79 l0 x3_1).f1), .int .i64 2, .int .i64 3] rfl u3_ ?_; (with_reducible refine (spec_l1In.calls ((rd_T79 l0 x3_1).f1) 2 3 true _ A12.out).mono ?_); rintro e w' ⟨rfl, ⟨nd, rfl⟩⟩; refine ⟨_, rfl, ?_⟩))
         go_meet
         case rel => exact ⟨_, ((((rd_T79 l0 x3_1).f2) == 0)), u20_, H', ⟨by have := HK1.out; have := HJ3.out; first | omega | exact Nat.le_refl _⟩, ⟨u90_⟩, ⟨u21_⟩⟩
        ·replace c13 := Bool.eq_false_iff.mpr c13; subst c13; rw [if_neg (show ¬ (false = true) by decide)] at H; have H' := am_ H; clear H; have hcz15_0 : wc.cell? ⟨gb200, 0, none⟩ = some (.string ((rd_T79 l0 x3_1).f0)) := (blk_cell BK200.out 0).trans rfl; have hcz15_1 : wc.cell? ⟨gb200, 1, none⟩ = some (.int .i64 ((rd_T79 l0 x3_1).f1)) := (blk_cell BK200.out 1).trans rfl; have hcz15_2 : wc.cell? ⟨gb200, 2, none⟩ = some (.int .i64 ((rd_T79 l0 x3_1).f2)) := (blk_cell BK200.out 2).trans rfl; have hfz15_0 := blk_frozen BK200.out 0; have hfz15_1 := blk_frozen BK200.out 1; have hfz15_2 := blk_frozen BK200.out 2; go_wp2_with (first | ((with_reducible refine gate_callee (f := 55) rfl ?_); refine goesL_ (some 27) rfl rfl Tryz.func55 u10_ rfl #[.int .i64 ((rd_T79 l0 x3_1).f1), .int .i64 2, .int .i64 3] rfl u3_ ?_; (with_reducible refine (spec_l1In.calls ((rd_T79 l0 x3_1).f1) 2 3 false _ A12.out).mono ?_); rintro e w' ⟨rfl, ⟨nd, rfl⟩⟩; refine ⟨_, rfl, ?_⟩))
         go_meet
         case rel => exact ⟨_, (false), u20_, H', ⟨by have := HK1.out; have := HJ3.out; first | omega | exact Nat.le_refl _⟩, ⟨u90_⟩, ⟨u21_⟩⟩
       case rest =>
        clear HC11; try clear c1
        try clear p1
        try clear q1
        try clear hx1
        try clear c2
        try clear c2b0
        try clear p2
        try clear c3
        try clear c3b0
        try clear c5
        try clear c7
        try clear c7b0
        try clear c7b1
        try clear c13
        try clear hcz10_0
        try clear hcz10_1
        try clear hcz10_2
        try clear hcz14_0
        try clear hcz14_1
        try clear hcz14_2
        try clear hcz15_0
        try clear hcz15_1
        try clear hcz15_2
        try clear hcz6_0
        try clear hcz6_1
        try clear hcz6_2
        try clear hcz9_0
        try clear hcz9_1
        try clear hcz9_2
        try clear hfz10_0
        try clear hfz10_1
        try clear hfz10_2
        try clear hfz14_0
        try clear hfz14_1
        try clear hfz14_2
        try clear hfz15_0
        try clear hfz15_1
        try clear hfz15_2
        try clear hfz6_0
        try clear hfz6_1
        try clear hfz6_2
        try clear hfz9_0
        try clear hfz9_1
        try clear hfz9_2
        try clear hx199_0
        try clear hx199_1
        try clear hx199_2
        try clear p1
        try clear p199
        try clear p2
        try clear q1
        try clear q199
        obtain ⟨kq, x6_10, rfl, HA, HJ10, BK200, HB⟩ := hcut; cases kq with
        | zero => exact absurd HA.out (by simp [spec_FieldsOk.j2])
        | succ kj10 =>
         have H := HA.out; clear HA; simp only [spec_FieldsOk.j2] at H; replace H := Option.bind_eq_some_iff.mp H; obtain ⟨t203, A160, H⟩ := H; replace H : (if t203 = true then ((spec_l2Field.f kj10 l0 ((rd_T79 l0 x3_1).f0)).bind fun t204 => (if t204 = x3_1 then (if x5_3 = true then (spec_FieldsOk.l0 kj10 l0 (wrap64 (x3_1 + 1))) else (if x6_10 = true then (spec_FieldsOk.l0 kj10 l0 (wrap64 (x3_1 + 1))) else (some false))) else (some false))) else (some false)) = some r := H; have A16 := am_ A160; clear A160; by_cases c17 : t203 = true
         ·subst c17; rw [if_pos rfl] at H; replace H := Option.bind_eq_some_iff.mp H; obtain ⟨t204, A180, H⟩ := H; replace H : (if t204 = x3_1 then (if x5_3 = true then (spec_FieldsOk.l0 kj10 l0 (wrap64 (x3_1 + 1))) else (if x6_10 = true then (spec_FieldsOk.l0 kj10 l0 (wrap64 (x3_1 + 1))) else (some false))) else (some false)) = some r := H; have A18 := am_ A180; clear A180; by_cases c19 : t204 = x3_1
          ·rw [if_pos c19] at H; have c19b0 : (t204 == x3_1) = true := beq_iff_eq.mpr c19; have c19b1 : (t204 != x3_1) = false := bne_eq_false_iff_eq.mpr c19; clear c19; by_cases c20 : x5_3 = true
           ·subst c20; rw [if_pos rfl] at H; have H' := am_ H; clear H; have hcz21_0 : wc.cell? ⟨gb200, 0, none⟩ = some (.string ((rd_T79 l0 x3_1).f0)) := (blk_cell BK200.out 0).trans rfl; have hcz21_1 : wc.cell? ⟨gb200, 1, none⟩ = some (.int .i64 ((rd_T79 l0 x3_1).f1)) := (blk_cell BK200.out 1).trans rfl; have hcz21_2 : wc.cell? ⟨gb200, 2, none⟩ = some (.int .i64 ((rd_T79 l0 x3_1).f2)) := (blk_cell BK200.out 2).trans rfl; have hfz21_0 := blk_frozen BK200.out 0; have hfz21_1 := blk_frozen BK200.out 1; have hfz21_2 := blk_frozen BK200.out 2; go_wp2_with (first | ((with_reducible refine gate_callee (f := 56) rfl ?_); refine goesL_ (some 35) rfl rfl Tryz.func56 u10_ rfl #[.string ((rd_T79 l0 x3_1).f0)] rfl u3_ ?_; (with_reducible refine (spec_NameOk.calls kj10 ((rd_T79 l0 x3_1).f0) true _ A16.out).mono ?_); rintro e w' ⟨rfl, ⟨nd, rfl⟩⟩; refine ⟨_, rfl, ?_⟩) | (go_at_call 57; (with_reducible refine (spec_l2Field.calls kj10 _ _ l0 ((rd_T79 l0 x3_1).f0) t204 _ ?side1 ?side2 A18.out).mono ?_); (case side1 => exact u109_); (case side2 => exact HC0.out); rintro e w' ⟨rfl, ⟨nd, rfl⟩⟩))
            go_roundg kj10
            case measure => have := HK1.out; have := HJ3.out; have := HJ10.out; omega
            case rel => exact ⟨(wrap64 (x3_1 + 1)), u20_, H', ⟨by have := HK1.out; have := HJ3.out; have := HJ10.out; omega⟩, ⟨u21_⟩⟩
           ·replace c20 := Bool.eq_false_iff.mpr c20; subst c20; rw [if_neg (show ¬ (false = true) by decide)] at H; by_cases c22 : x6_10 = true
            ·subst c22; rw [if_pos rfl] at H; have H' := am_ H; clear H; have hcz23_0 : wc.cell? ⟨gb200, 0, none⟩ = some (.string ((rd_T79 l0 x3_1).f0)) := (blk_cell BK200.out 0).trans rfl; have hcz23_1 : wc.cell? ⟨gb200, 1, none⟩ = some (.int .i64 ((rd_T79 l0 x3_1).f1)) := (blk_cell BK200.out 1).trans rfl; have hcz23_2 : wc.cell? ⟨gb200, 2, none⟩ = some (.int .i64 ((rd_T79 l0 x3_1).f2)) := (blk_cell BK200.out 2).trans rfl; have hfz23_0 := blk_frozen BK200.out 0; have hfz23_1 := blk_frozen BK200.out 1; have hfz23_2 := blk_frozen BK200.out 2; go_wp2_with (first | ((with_reducible refine gate_callee (f := 56) rfl ?_); refine goesL_ (some 35) rfl rfl Tryz.func56 u10_ rfl #[.string ((rd_T79 l0 x3_1).f0)] rfl u3_ ?_; (with_reducible refine (spec_NameOk.calls kj10 ((rd_T79 l0 x3_1).f0) true _ A16.out).mono ?_); rintro e w' ⟨rfl, ⟨nd, rfl⟩⟩; refine ⟨_, rfl, ?_⟩) | (go_at_call 57; (with_reducible refine (spec_l2Field.calls kj10 _ _ l0 ((rd_T79 l0 x3_1).f0) t204 _ ?side1 ?side2 A18.out).mono ?_); (case side1 => exact u109_); (case side2 => exact HC0.out); rintro e w' ⟨rfl, ⟨nd, rfl⟩⟩))
             go_roundg kj10
             case measure => have := HK1.out; have := HJ3.out; have := HJ10.out; omega
             case rel => exact ⟨(wrap64 (x3_1 + 1)), u20_, H', ⟨by have := HK1.out; have := HJ3.out; have := HJ10.out; omega⟩, ⟨u21_⟩⟩
            ·replace c22 := Bool.eq_false_iff.mpr c22; subst c22; rw [if_neg (show ¬ (false = true) by decide)] at H; obtain rfl := Option.some.inj H; have hcz24_0 : wc.cell? ⟨gb200, 0, none⟩ = some (.string ((rd_T79 l0 x3_1).f0)) := (blk_cell BK200.out 0).trans rfl; have hcz24_1 : wc.cell? ⟨gb200, 1, none⟩ = some (.int .i64 ((rd_T79 l0 x3_1).f1)) := (blk_cell BK200.out 1).trans rfl; have hcz24_2 : wc.cell? ⟨gb200, 2, none⟩ = some (.int .i64 ((rd_T79 l0 x3_1).f2)) := (blk_cell BK200.out 2).trans rfl; have hfz24_0 := blk_frozen BK200.out 0; have hfz24_1 := blk_frozen BK200.out 1; have hfz24_2 := blk_frozen BK200.out 2; go_wp2_with (first | ((with_reducible refine gate_callee (f := 56) rfl ?_); refine goesL_ (some 35) rfl rfl Tryz.func56 u10_ rfl #[.string ((rd_T79 l0 x3_1).f0)] rfl u3_ ?_; (with_reducible refine (spec_NameOk.calls kj10 ((rd_T79 l0 x3_1).f0) true _ A16.out).mono ?_); rintro e w' ⟨rfl, ⟨nd, rfl⟩⟩; refine ⟨_, rfl, ?_⟩) | (go_at_call 57; (with_reducible refine (spec_l2Field.calls kj10 _ _ l0 ((rd_T79 l0 x3_1).f0) t204 _ ?side1 ?side2 A18.out).mono ?_); (case side1 => exact u109_); (case side2 => exact HC0.out); rintro e w' ⟨rfl, ⟨nd, rfl⟩⟩))
             go_ret
             exact ⟨u8_, u21_⟩
          ·rw [if_neg c19] at H; have c19b0 : (t204 == x3_1) = false := beq_eq_false_iff_ne.mpr c19; have c19b1 : (t204 != x3_1) = true := bne_iff_ne.mpr c19; obtain rfl := Option.some.inj H; have hcz25_0 : wc.cell? ⟨gb200, 0, none⟩ = some (.string ((rd_T79 l0 x3_1).f0)) := (blk_cell BK200.out 0).trans rfl; have hcz25_1 : wc.cell? ⟨gb200, 1, none⟩ = some (.int .i64 ((rd_T79 l0 x3_1).f1)) := (blk_cell BK200.out 1).trans rfl; have hcz25_2 : wc.cell? ⟨gb200, 2, none⟩ = some (.int .i64 ((rd_T79 l0 x3_1).f2)) := (blk_cell BK200.out 2).trans rfl; have hfz25_0 := blk_frozen BK200.out 0; have hfz25_1 := blk_frozen BK200.out 1; have hfz25_2 := blk_frozen BK200.out 2; go_wp2_with (first | ((with_reducible refine gate_callee (f := 56) rfl ?_); refine goesL_ (some 35) rfl rfl Tryz.func56 u10_ rfl #[.string ((rd_T79 l0 x3_1).f0)] rfl u3_ ?_; (with_reducible refine (spec_NameOk.calls kj10 ((rd_T79 l0 x3_1).f0) true _ A16.out).mono ?_); rintro e w' ⟨rfl, ⟨nd, rfl⟩⟩; refine ⟨_, rfl, ?_⟩) | (go_at_call 57; (with_reducible refine (spec_l2Field.calls kj10 _ _ l0 ((rd_T79 l0 x3_1).f0) t204 _ ?side1 ?side2 A18.out).mono ?_); (case side1 => exact u109_); (case side2 => exact HC0.out); rintro e w' ⟨rfl, ⟨nd, rfl⟩⟩))
           go_ret
           exact ⟨u8_, u21_⟩
         ·replace c17 := Bool.eq_false_iff.mpr c17; subst c17; rw [if_neg (show ¬ (false = true) by decide)] at H; obtain rfl := Option.some.inj H; have hcz26_0 : wc.cell? ⟨gb200, 0, none⟩ = some (.string ((rd_T79 l0 x3_1).f0)) := (blk_cell BK200.out 0).trans rfl; have hcz26_1 : wc.cell? ⟨gb200, 1, none⟩ = some (.int .i64 ((rd_T79 l0 x3_1).f1)) := (blk_cell BK200.out 1).trans rfl; have hcz26_2 : wc.cell? ⟨gb200, 2, none⟩ = some (.int .i64 ((rd_T79 l0 x3_1).f2)) := (blk_cell BK200.out 2).trans rfl; have hfz26_0 := blk_frozen BK200.out 0; have hfz26_1 := blk_frozen BK200.out 1; have hfz26_2 := blk_frozen BK200.out 2; go_wp2_with (first | ((with_reducible refine gate_callee (f := 56) rfl ?_); refine goesL_ (some 35) rfl rfl Tryz.func56 u10_ rfl #[.string ((rd_T79 l0 x3_1).f0)] rfl u3_ ?_; (with_reducible refine (spec_NameOk.calls kj10 ((rd_T79 l0 x3_1).f0) false _ A16.out).mono ?_); rintro e w' ⟨rfl, ⟨nd, rfl⟩⟩; refine ⟨_, rfl, ?_⟩))
          go_ret
          exact ⟨u8_, u21_⟩
    ·exact u115_
   ·rw [if_neg c2] at H; have c2b0 : decide (x3_1 < (l0.length : Int)) = false := decide_eq_false c2; clear c2; replace H := Option.bind_eq_some_iff.mp H; obtain ⟨t198, A270, H⟩ := H; replace H : (some t198) = some r := H; have A27 := am_ A270; clear A270; obtain rfl := Option.some.inj H; go_wp2_with (first | ((with_reducible refine gate_callee (f := 55) rfl ?_); refine goesL_ (some 55) rfl rfl Tryz.func55 u10_ rfl #[.int .i64 (l0.length : Int), .int .i64 1, .int .i64 4] rfl u3_ ?_; (with_reducible refine (spec_l1In.calls (l0.length : Int) 1 4 t198 _ A27.out).mono ?_); rintro e w' ⟨rfl, ⟨nd, rfl⟩⟩; refine ⟨_, rfl, ?_⟩))
    go_ret
    exact ⟨u8_, u5_⟩

end Go.Proofs.YtelcdhjdlgedeaaGreatDoor.PFnIndexNew
