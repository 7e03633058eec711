/- Contracts of Go functions that the law FnIndexNew reaches: each is told as a plain Lean function, with the walk that shows it; no condition beyond what each states. Written by a program of this session round the kit's printer. -/
import Derived.Test.YtelcdhjdlgedeaaGreatDoorVPFnIndexNewx0
import Derived.Test.YtelcdhjdlgedeaaGreatDoorVPFnIndexNewx3
namespace Go.Proofs.YtelcdhjdlgedeaaGreatDoor.PFnIndexNew
open Go.RowKit Go.Proofs.YtelcdhjdlgedeaaGreatDoorW.PrintWords Go.Proofs.YtelcdhjdlgedeaaGreatDoorW.PrintLast Go.Proofs.YtelcdhjdlgedeaaGreatDoorW.PrintMore
attribute [local go_sem] run_str_geq run_str_leq max2_int min2_int max_two min_two max_three min_three max_four min_four   -- for this text's walks alone
set_option linter.unusedVariables false
set_option linter.unusedSimpArgs false

/-! ### impl_NameOk: function 53 -/
def impl_NameOk.l0 : Nat → ByteArray → Int → Int → Option (Bool)
 | 0, _, _, _ => none
 | k + 1, x0, x5, x6 => if x6 < x5 then (if 0 ≤ x6 then (if x6 < (x0.size : Int) then ((impl_lower.f (bt x0 x6)).bind fun t165 => (if t165 = true then (impl_NameOk.l0 k x0 x5 (wrap64 (x6 + 1))) else (if x6 = 0 then (some false) else ((impl_digit.f (bt x0 x6)).bind fun t166 => (if t166 = true then (impl_NameOk.l0 k x0 x5 (wrap64 (x6 + 1))) else (some false)))))) else (none)) else (none)) else ((impl_within.f (x0.size : Int) 1 8).bind fun t164 => (some t164))
def impl_NameOk.f (k : Nat) (a0 : ByteArray) : Option (Bool) := impl_NameOk.l0 k a0 (a0.size : Int) 0
theorem impl_NameOk.mono_l : ∀ k, (∀ y0 y1 y2, LeO (impl_NameOk.l0 k y0 y1 y2) (impl_NameOk.l0 (k + 1) y0 y1 y2))
 | 0 => fun _ _ _ r h => by simp [impl_NameOk.l0] at h
 | k + 1 => by
  have ih0 := impl_NameOk.mono_l k
  ·intro y0 y1 y2; unfold impl_NameOk.l0
   repeat' first
   | (with_reducible exact ih0 _ _ _)
   | (with_reducible exact LeO.refl _)
   | (with_reducible exact LeO.none _)
   | (with_reducible refine LeO.ite ?_ ?_)
   | (with_reducible refine LeO.bind ?_ (fun _ => ?_))
   | exact ih0 _ _ _
   | exact LeO.none _
   | refine LeO.ite ?_ ?_
   | refine LeO.bind ?_ (fun _ => ?_)
theorem impl_NameOk.mono : ∀ a0 k, LeO (impl_NameOk.f k a0) (impl_NameOk.f (k + 1) a0) := by
 intro a0 k; have ih0 := impl_NameOk.mono_l k; unfold impl_NameOk.f
 repeat' first
   | (with_reducible exact ih0 _ _ _)
   | (with_reducible exact LeO.refl _)
   | (with_reducible exact LeO.none _)
   | (with_reducible refine LeO.ite ?_ ?_)
   | (with_reducible refine LeO.bind ?_ (fun _ => ?_))
   | exact ih0 _ _ _
   | exact LeO.none _
   | refine LeO.ite ?_ ?_
   | refine LeO.bind ?_ (fun _ => ?_)
set_option maxHeartbeats 8000000 in
set_option maxRecDepth 100000 in
theorem impl_NameOk.calls (k : Nat) (a0 : ByteArray) (r : Bool) (w : World) (h : impl_NameOk.f k a0 = some r) :
  Calls Tryz.prog 53 #[.string a0] w fun e w' => e = .returned (.bool r) ∧ Drawn0 w w' := by
 have H : (impl_NameOk.l0 k a0 (a0.size : Int) 0) = some r := h; clear h; have H' := am_ H; clear H; go_enter Tryz.func53, Tryz.ntmps53
 go_wp2; go_loopg [6] k (fun kq v6 w' => ∃ (x6_1 : Int), v6 = .int .i64 x6_1 ∧ Aside0 (impl_NameOk.l0 kq a0 (a0.size : Int) x6_1 = some r) ∧ Aside0 (kq ≤ k) ∧ Drawn0 w w')
 case atStart => exact ⟨(0), u20_, H', ⟨Nat.le_refl _⟩, u13_⟩
 case round =>
  clear H'; obtain ⟨x6_1, rfl, HA, HK1, ⟨m1, rfl⟩⟩ := hrel; cases gk with
  | zero => exact absurd HA.out (by simp [impl_NameOk.l0])
  | succ k1 =>
   have H := HA.out; clear HA; simp only [impl_NameOk.l0] at H; by_cases c2 : x6_1 < (a0.size : Int)
   ·rw [if_pos c2] at H; have c2b0 : decide (x6_1 < (a0.size : Int)) = true := decide_eq_true c2; clear c2; by_cases c3 : 0 ≤ x6_1
    ·rw [if_pos c3] at H; have c3b0 : decide (0 ≤ x6_1) = true := decide_eq_true c3; clear c3; by_cases c4 : x6_1 < (a0.size : Int)
     ·rw [if_pos c4] at H; have c4b0 : decide (x6_1 < (a0.size : Int)) = true := decide_eq_true c4; clear c4; replace H := Option.bind_eq_some_iff.mp H; obtain ⟨t165, A60, H⟩ := H; replace H : (if t165 = true then (impl_NameOk.l0 k1 a0 (a0.size : Int) (wrap64 (x6_1 + 1))) else (if x6_1 = 0 then (some false) else ((impl_digit.f (bt a0 x6_1)).bind fun t166 => (if t166 = true then (impl_NameOk.l0 k1 a0 (a0.size : Int) (wrap64 (x6_1 + 1))) else (some false))))) = some r := H; have A6 := am_ A60; clear A60; by_cases c7 : t165 = true
      ·subst c7; rw [if_pos rfl] at H; have H' := am_ H; clear H; have p5 : 0 ≤ (x6_1 : Int) := of_decide_eq_true u2_; have q5 : x6_1 < (a0.size : Int) := of_decide_eq_true u2_; have hx5 := bt_at a0 x6_1; replace p5 := eq_true p5; replace q5 := eq_true q5; go_wp2_with (first | ((with_reducible refine gate_callee (f := 83) rfl ?_); refine goesL_ (some 12) rfl rfl Tryz.func83 u10_ rfl #[.int .u8 (bt a0 x6_1)] rfl u3_ ?_; (with_reducible refine (impl_lower.calls (bt a0 x6_1) true _ A6.out).mono ?_); rintro e w' ⟨rfl, ⟨nd, rfl⟩⟩; refine ⟨_, rfl, ?_⟩))
       go_roundg k1
       case measure => have := HK1.out; omega
       case rel => exact ⟨(wrap64 (x6_1 + 1)), u20_, H', ⟨u72_⟩, u13_⟩
      ·replace c7 := Bool.eq_false_iff.mpr c7; subst c7; rw [if_neg (show ¬ (false = true) by decide)] at H; by_cases c8 : x6_1 = 0
       ·rw [if_pos c8] at H; have c8b0 : (x6_1 == 0) = true := beq_iff_eq.mpr c8; have c8b1 : (x6_1 != 0) = false := bne_eq_false_iff_eq.mpr c8; clear c8; obtain rfl := Option.some.inj H; have p5 : 0 ≤ (x6_1 : Int) := of_decide_eq_true u2_; have q5 : x6_1 < (a0.size : Int) := of_decide_eq_true u2_; have hx5 := bt_at a0 x6_1; replace p5 := eq_true p5; replace q5 := eq_true q5; go_wp2_with (first | ((with_reducible refine gate_callee (f := 83) rfl ?_); refine goesL_ (some 12) rfl rfl Tryz.func83 u10_ rfl #[.int .u8 (bt a0 x6_1)] rfl u3_ ?_; (with_reducible refine (impl_lower.calls (bt a0 x6_1) false _ A6.out).mono ?_); rintro e w' ⟨rfl, ⟨nd, rfl⟩⟩; refine ⟨_, rfl, ?_⟩))
        go_ret
        exact ⟨u15_, u13_⟩
       ·rw [if_neg c8] at H; have c8b0 : (x6_1 == 0) = false := beq_eq_false_iff_ne.mpr c8; have c8b1 : (x6_1 != 0) = true := bne_iff_ne.mpr c8; replace H := Option.bind_eq_some_iff.mp H; obtain ⟨t166, A100, H⟩ := H; replace H : (if t166 = true then (impl_NameOk.l0 k1 a0 (a0.size : Int) (wrap64 (x6_1 + 1))) else (some false)) = some r := H; have A10 := am_ A100; clear A100; by_cases c11 : t166 = true
        ·subst c11; rw [if_pos rfl] at H; have H' := am_ H; clear H; have p5 : 0 ≤ (x6_1 : Int) := of_decide_eq_true u2_; have q5 : x6_1 < (a0.size : Int) := of_decide_eq_true u2_; have hx5 := bt_at a0 x6_1; replace p5 := eq_true p5; replace q5 := eq_true q5; go_wp2_with (first | ((with_reducible refine gate_callee (f := 83) rfl ?_); refine goesL_ (some 12) rfl rfl Tryz.func83 u10_ rfl #[.int .u8 (bt a0 x6_1)] rfl u3_ ?_; (with_reducible refine (impl_lower.calls (bt a0 x6_1) false _ A6.out).mono ?_); rintro e w' ⟨rfl, ⟨nd, rfl⟩⟩; refine ⟨_, rfl, ?_⟩; have p9 : 0 ≤ (x6_1 : Int) := of_decide_eq_true u2_; have q9 : x6_1 < (a0.size : Int) := of_decide_eq_true u2_; have hx9 := bt_at a0 x6_1; replace p9 := eq_true p9; replace q9 := eq_true q9) | (go_at_call 84; (with_reducible refine (impl_digit.calls (bt a0 x6_1) true _ A10.out).mono ?_); rintro e w' ⟨rfl, ⟨nd, rfl⟩⟩))
         go_roundg k1
         case measure => have := HK1.out; omega
         case rel => exact ⟨(wrap64 (x6_1 + 1)), u20_, H', ⟨u72_⟩, u13_⟩
        ·replace c11 := Bool.eq_false_iff.mpr c11; subst c11; rw [if_neg (show ¬ (false = true) by decide)] at H; obtain rfl := Option.some.inj H; have p5 : 0 ≤ (x6_1 : Int) := of_decide_eq_true u2_; have q5 : x6_1 < (a0.size : Int) := of_decide_eq_true u2_; have hx5 := bt_at a0 x6_1; replace p5 := eq_true p5; replace q5 := eq_true q5; go_wp2_with (first | ((with_reducible refine gate_callee (f := 83) rfl ?_); refine goesL_ (some 12) rfl rfl Tryz.func83 u10_ rfl #[.int .u8 (bt a0 x6_1)] rfl u3_ ?_; (with_reducible refine (impl_lower.calls (bt a0 x6_1) false _ A6.out).mono ?_); rintro e w' ⟨rfl, ⟨nd, rfl⟩⟩; refine ⟨_, rfl, ?_⟩; have p9 : 0 ≤ (x6_1 : Int) := of_decide_eq_true u2_; have q9 : x6_1 < (a0.size : Int) := of_decide_eq_true u2_; have hx9 := bt_at a0 x6_1; replace p9 := eq_true p9; replace q9 := eq_true q9) | (go_at_call 84; (with_reducible refine (impl_digit.calls (bt a0 x6_1) false _ A10.out).mono ?_); rintro e w' ⟨rfl, ⟨nd, rfl⟩⟩))
         go_ret
         exact ⟨u15_, u13_⟩
     ·exact u112_
    ·exact u115_
   ·rw [if_neg c2] at H; have c2b0 : decide (x6_1 < (a0.size : Int)) = false := decide_eq_false c2; clear c2; replace H := Option.bind_eq_some_iff.mp H; obtain ⟨t164, A120, H⟩ := H; replace H : (some t164) = some r := H; have A12 := am_ A120; clear A120; obtain rfl := Option.some.inj H; go_wp2_with (first | ((with_reducible refine gate_callee (f := 30) rfl ?_); refine goesL_ (some 28) rfl rfl Tryz.func30 u10_ rfl #[.int .i64 (a0.size : Int), .int .i64 1, .int .i64 8] rfl u3_ ?_; (with_reducible refine (impl_within.calls (a0.size : Int) 1 8 t164 _ A12.out).mono ?_); rintro e w' ⟨rfl, ⟨nd, rfl⟩⟩; refine ⟨_, rfl, ?_⟩))
    go_ret
    exact ⟨u15_, u13_⟩

/-! ### slices_Index_string_string: function 85 -/
def slices_Index_string_string.l0 : Nat → List ByteArray → ByteArray → Int → Int → Option (Int)
 | 0, _, _, _, _ => none
 | k + 1, x0, x1, x7, x8 => if x8 < x7 then (if 0 ≤ x8 then (if x8 < (x0.length : Int) then (if x1.toList = (rdOf ByteArray.empty x0 x8).toList then (some x8) else (slices_Index_string_string.l0 k x0 x1 x7 (wrap64 (x8 + 1)))) else (none)) else (none)) else (some (-1))
def slices_Index_string_string.f (k : Nat) (l0 : List ByteArray) (a1 : ByteArray) : Option (Int) := slices_Index_string_string.l0 k l0 a1 (l0.length : Int) 0
theorem slices_Index_string_string.mono_l : ∀ k, (∀ y0 y1 y2 y3, LeO (slices_Index_string_string.l0 k y0 y1 y2 y3) (slices_Index_string_string.l0 (k + 1) y0 y1 y2 y3))
 | 0 => fun _ _ _ _ r h => by simp [slices_Index_string_string.l0] at h
 | k + 1 => by
  have ih0 := slices_Index_string_string.mono_l k
  ·intro y0 y1 y2 y3; unfold slices_Index_string_string.l0
   repeat' first
   | (with_reducible exact ih0 _ _ _ _)
   | (with_reducible exact LeO.refl _)
   | (with_reducible exact LeO.none _)
   | (with_reducible refine LeO.ite ?_ ?_)
   | (with_reducible refine LeO.bind ?_ (fun _ => ?_))
   | exact ih0 _ _ _ _
   | exact LeO.none _
   | refine LeO.ite ?_ ?_
   | refine LeO.bind ?_ (fun _ => ?_)
theorem slices_Index_string_string.mono : ∀ a0 a1 k, LeO (slices_Index_string_string.f k a0 a1) (slices_Index_string_string.f (k + 1) a0 a1) := by
 intro a0 a1 k; have ih0 := slices_Index_string_string.mono_l k; unfold slices_Index_string_string.f
 repeat' first
   | (with_reducible exact ih0 _ _ _ _)
   | (with_reducible exact LeO.refl _)
   | (with_reducible exact LeO.none _)
   | (with_reducible refine LeO.ite ?_ ?_)
   | (with_reducible refine LeO.bind ?_ (fun _ => ?_))
   | exact ih0 _ _ _ _
   | exact LeO.none _
   | refine LeO.ite ?_ ?_
   | refine LeO.bind ?_ (fun _ => ?_)
set_option maxHeartbeats 8000000 in
set_option maxRecDepth 100000 in
theorem slices_Index_string_string.calls (k : Nat) (A0 : Option Addr) (c0 : Nat) (l0 : List ByteArray) (a1 : ByteArray) (r : Int) (w : World) (hr0 : Kd.C Kd.string w A0 l0.length l0) (hc0 : l0.length ≤ c0) (h : slices_Index_string_string.f k l0 a1 = some r) :
  Calls Tryz.prog 85 #[.slice A0 l0.length c0, .string a1] w fun e w' => e = .returned (.int .i64 r) ∧ Drawn0 w w' := by
 have HR0 := am_ hr0; have HC0 := am_ hc0; clear hr0 hc0; have H : (slices_Index_string_string.l0 k l0 a1 (l0.length : Int) 0) = some r := h; clear h; have H' := am_ H; clear H; go_enter Tryz.func85, Tryz.ntmps85
 go_wp2; go_loopg [8] k (fun kq v8 w' => ∃ (x8_1 : Int), v8 = .int .i64 x8_1 ∧ Aside0 (slices_Index_string_string.l0 kq l0 a1 (l0.length : Int) x8_1 = some r) ∧ Aside0 (kq ≤ k) ∧ Drawn0 w w')
 case atStart => exact ⟨(0), u20_, H', ⟨Nat.le_refl _⟩, u13_⟩
 case round =>
  clear H'; try clear p2
  obtain ⟨x8_1, rfl, HA, HK1, ⟨m1, rfl⟩⟩ := hrel; cases gk with
  | zero => exact absurd HA.out (by simp [slices_Index_string_string.l0])
  | succ k1 =>
   have H := HA.out; clear HA; simp only [slices_Index_string_string.l0] at H; by_cases c3 : x8_1 < (l0.length : Int)
   ·rw [if_pos c3] at H; have c3b0 : decide (x8_1 < (l0.length : Int)) = true := decide_eq_true c3; clear c3; by_cases c4 : 0 ≤ x8_1
    ·rw [if_pos c4] at H; have c4b0 : decide (0 ≤ x8_1) = true := decide_eq_true c4; clear c4; by_cases c5 : x8_1 < (l0.length : Int)
     ·rw [if_pos c5] at H; have c5b0 : decide (x8_1 < (l0.length : Int)) = true := decide_eq_true c5; clear c5; by_cases c6 : a1.toList = (rdOf ByteArray.empty l0 x8_1).toList
      ·rw [if_pos c6] at H; have c6b0 : (a1.toList == (rdOf ByteArray.empty l0 x8_1).toList) = true := beq_iff_eq.mpr c6; have c6b1 : (a1.toList != (rdOf ByteArray.empty l0 x8_1).toList) = false := bne_eq_false_iff_eq.mpr c6; clear c6; obtain rfl := Option.some.inj H; have p167 : 0 ≤ (x8_1 : Int) := of_decide_eq_true u2_; have q167 : x8_1 < (l0.length : Int) := of_decide_eq_true u2_; obtain ⟨ad167, e167, hx167_0⟩ := Kd.at_string HR0.out x8_1 p167 q167; cases e167; replace p167 := eq_true p167; replace q167 := eq_true q167; go_wp2; go_ret
       exact ⟨u15_, u13_⟩
      ·rw [if_neg c6] at H; have c6b0 : (a1.toList == (rdOf ByteArray.empty l0 x8_1).toList) = false := beq_eq_false_iff_ne.mpr c6; have c6b1 : (a1.toList != (rdOf ByteArray.empty l0 x8_1).toList) = true := bne_iff_ne.mpr c6; have H' := am_ H; clear H; have p167 : 0 ≤ (x8_1 : Int) := of_decide_eq_true u2_; have q167 : x8_1 < (l0.length : Int) := of_decide_eq_true u2_; obtain ⟨ad167, e167, hx167_0⟩ := Kd.at_string HR0.out x8_1 p167 q167; cases e167; replace p167 := eq_true p167; replace q167 := eq_true q167; go_wp2; go_roundg k1
       case measure => have := HK1.out; omega
       case rel => exact ⟨(wrap64 (x8_1 + 1)), u20_, H', ⟨u72_⟩, u13_⟩
     ·exact u111_
    ·exact u112_
   ·rw [if_neg c3] at H; have c3b0 : decide (x8_1 < (l0.length : Int)) = false := decide_eq_false c3; clear c3; obtain rfl := Option.some.inj H; go_wp2; go_ret
    exact ⟨u15_, u13_⟩

/-! ### slices_Contains_string_string: function 54 -/
def slices_Contains_string_string.f (k : Nat) (l0 : List ByteArray) (a1 : ByteArray) : Option (Bool) := (slices_Index_string_string.f k l0 a1).bind fun t168 => (some (decide (t168 ≥ 0)))
theorem slices_Contains_string_string.mono : ∀ a0 a1 k, LeO (slices_Contains_string_string.f k a0 a1) (slices_Contains_string_string.f (k + 1) a0 a1) := by
 intro a0 a1 k; unfold slices_Contains_string_string.f
 repeat' first
   | (with_reducible exact slices_Index_string_string.mono _ _ _)
   | (with_reducible exact LeO.refl _)
   | (with_reducible exact LeO.none _)
   | (with_reducible refine LeO.ite ?_ ?_)
   | (with_reducible refine LeO.bind ?_ (fun _ => ?_))
   | exact slices_Index_string_string.mono _ _ _
   | exact LeO.none _
   | refine LeO.ite ?_ ?_
   | refine LeO.bind ?_ (fun _ => ?_)
set_option maxHeartbeats 8000000 in
set_option maxRecDepth 100000 in
theorem slices_Contains_string_string.calls (k : Nat) (A0 : Option Addr) (c0 : Nat) (l0 : List ByteArray) (a1 : ByteArray) (r : Bool) (w : World) (hr0 : Kd.C Kd.string w A0 l0.length l0) (hc0 : l0.length ≤ c0) (h : slices_Contains_string_string.f k l0 a1 = some r) :
  Calls Tryz.prog 54 #[.slice A0 l0.length c0, .string a1] w fun e w' => e = .returned (.bool r) ∧ Drawn0 w w' := by
 have HR0 := am_ hr0; have HC0 := am_ hc0; clear hr0 hc0; have H : ((slices_Index_string_string.f k l0 a1).bind fun t168 => (some (decide (t168 ≥ 0)))) = some r := h; clear h; replace H := Option.bind_eq_some_iff.mp H; obtain ⟨t168, A30, H⟩ := H; replace H : (some (decide (t168 ≥ 0))) = some r := H; have A3 := am_ A30; clear A30; obtain rfl := Option.some.inj H; go_enter Tryz.func54, Tryz.ntmps54
 go_wp2_with (first | ((with_reducible refine gate_callee (f := 85) rfl ?_); refine goesL_ (some 7) rfl rfl Tryz.func85 u10_ rfl #[.slice A0 l0.length c0, .string a1] rfl u3_ ?_; (with_reducible refine (slices_Index_string_string.calls k _ _ l0 a1 t168 _ ?side1 ?side2 A3.out).mono ?_); (case side1 => exact u80_); (case side2 => exact HC0.out); rintro e w' ⟨rfl, ⟨nd, rfl⟩⟩; refine ⟨_, rfl, ?_⟩))
 go_ret
 exact ⟨u15_, u13_⟩

/-! ### impl_FieldsOk: function 25 -/
mutual
def impl_FieldsOk.l0 : Nat → List (S79) → List ByteArray → List (S79) → Int → Int → Option (Bool)
 | 0, _, _, _, _, _ => none
 | k + 1, x0, x3, x8, x9, x10 => if x10 < x9 then (if 0 ≤ x10 then (if x10 < (x8.length : Int) then (if ((rd_T79 x8 x10).f1) = 1 then ((impl_within.f ((rd_T79 x8 x10).f2) 1 9).bind fun t175 => (impl_FieldsOk.j1 k x0 x3 t175 x8 x9 x10 ((rd_T79 x8 x10).f0) ((rd_T79 x8 x10).f1) ((rd_T79 x8 x10).f2))) else (impl_FieldsOk.j1 k x0 x3 (((rd_T79 x8 x10).f2) == 0) x8 x9 x10 ((rd_T79 x8 x10).f0) ((rd_T79 x8 x10).f1) ((rd_T79 x8 x10).f2))) else (none)) else (none)) else ((impl_within.f (x0.length : Int) 1 4).bind fun t172 => (some t172))
def impl_FieldsOk.j1 : Nat → List (S79) → List ByteArray → Bool → List (S79) → Int → Int → ByteArray → Int → Int → Option (Bool)
 | 0, _, _, _, _, _, _, _, _, _ => none
 | k + 1, x0, x3, x6, x8, x9, x10, x175000, x175001, x175002 => (impl_NameOk.f k x175000).bind fun t176 => (if t176 = true then ((slices_Contains_string_string.f k x3 x175000).bind fun t177 => (if t177 = true then (some false) else ((impl_within.f x175001 1 3).bind fun t178 => (if t178 = true then (if x6 = true then (if x3.length < 8796093022208 then (impl_FieldsOk.l0 k x0 (x3 ++ [x175000]) x8 x9 (wrap64 (x10 + 1))) else (none)) else (some false)) else (some false))))) else (some false))
end
def impl_FieldsOk.f (k : Nat) (l0 : List (S79)) : Option (Bool) := impl_FieldsOk.l0 k l0 (([] : List ByteArray)) l0 (l0.length : Int) 0
theorem impl_FieldsOk.mono_l : ∀ k, (∀ y0 y1 y2 y3 y4, LeO (impl_FieldsOk.l0 k y0 y1 y2 y3 y4) (impl_FieldsOk.l0 (k + 1) y0 y1 y2 y3 y4)) ∧ (∀ y0 y1 y2 y3 y4 y5 y6 y7 y8, LeO (impl_FieldsOk.j1 k y0 y1 y2 y3 y4 y5 y6 y7 y8) (impl_FieldsOk.j1 (k + 1) y0 y1 y2 y3 y4 y5 y6 y7 y8))
 | 0 => ⟨fun _ _ _ _ _ r h => by simp [impl_FieldsOk.l0] at h, fun _ _ _ _ _ _ _ _ _ r h => by simp [impl_FieldsOk.j1] at h⟩
 | k + 1 => by
  obtain ⟨ih0, ih1⟩ := impl_FieldsOk.mono_l k; refine ⟨?_, ?_⟩
  ·intro y0 y1 y2 y3 y4; unfold impl_FieldsOk.l0
   repeat' first
   | (with_reducible exact ih0 _ _ _ _ _)
   | (with_reducible exact ih1 _ _ _ _ _ _ _ _ _)
   | (with_reducible exact impl_NameOk.mono _ _)
   | (with_reducible exact slices_Contains_string_string.mono _ _ _)
   | (with_reducible exact LeO.refl _)
   | (with_reducible exact LeO.none _)
   | (with_reducible refine LeO.ite ?_ ?_)
   | (with_reducible refine LeO.bind ?_ (fun _ => ?_))
   | exact ih0 _ _ _ _ _
   | exact ih1 _ _ _ _ _ _ _ _ _
   | exact impl_NameOk.mono _ _
   | exact slices_Contains_string_string.mono _ _ _
   | exact LeO.none _
   | refine LeO.ite ?_ ?_
   | refine LeO.bind ?_ (fun _ => ?_)
  ·intro y0 y1 y2 y3 y4 y5 y6 y7 y8; unfold impl_FieldsOk.j1
   repeat' first
   | (with_reducible exact ih0 _ _ _ _ _)
   | (with_reducible exact ih1 _ _ _ _ _ _ _ _ _)
   | (with_reducible exact impl_NameOk.mono _ _)
   | (with_reducible exact slices_Contains_string_string.mono _ _ _)
   | (with_reducible exact LeO.refl _)
   | (with_reducible exact LeO.none _)
   | (with_reducible refine LeO.ite ?_ ?_)
   | (with_reducible refine LeO.bind ?_ (fun _ => ?_))
   | exact ih0 _ _ _ _ _
   | exact ih1 _ _ _ _ _ _ _ _ _
   | exact impl_NameOk.mono _ _
   | exact slices_Contains_string_string.mono _ _ _
   | exact LeO.none _
   | refine LeO.ite ?_ ?_
   | refine LeO.bind ?_ (fun _ => ?_)
theorem impl_FieldsOk.mono : ∀ a0 k, LeO (impl_FieldsOk.f k a0) (impl_FieldsOk.f (k + 1) a0) := by
 intro a0 k; obtain ⟨ih0, ih1⟩ := impl_FieldsOk.mono_l k; unfold impl_FieldsOk.f
 repeat' first
   | (with_reducible exact ih0 _ _ _ _ _)
   | (with_reducible exact ih1 _ _ _ _ _ _ _ _ _)
   | (with_reducible exact impl_NameOk.mono _ _)
   | (with_reducible exact slices_Contains_string_string.mono _ _ _)
   | (with_reducible exact LeO.refl _)
   | (with_reducible exact LeO.none _)
   | (with_reducible refine LeO.ite ?_ ?_)
   | (with_reducible refine LeO.bind ?_ (fun _ => ?_))
   | exact ih0 _ _ _ _ _
   | exact ih1 _ _ _ _ _ _ _ _ _
   | exact impl_NameOk.mono _ _
   | exact slices_Contains_string_string.mono _ _ _
   | exact LeO.none _
   | refine LeO.ite ?_ ?_
   | refine LeO.bind ?_ (fun _ => ?_)
set_option maxHeartbeats 8000000 in
set_option maxRecDepth 100000 in
theorem impl_FieldsOk.calls (k : Nat) (A0 : Option Addr) (c0 : Nat) (l0 : List (S79)) (r : Bool) (w : World) (hr0 : Kd.C k79 w A0 l0.length l0) (hc0 : l0.length ≤ c0) (h : impl_FieldsOk.f k l0 = some r) :
  Calls Tryz.prog 25 #[.slice A0 l0.length c0] w fun e w' => e = .returned (.bool r) ∧ Below w.heap.size w w' := by
 have hu79 := Tryz.underlying79; have HR0 := am_ hr0; have HC0 := am_ hc0; clear hr0 hc0; have HB := am_ (Below.refl w.heap.size w); have H : (impl_FieldsOk.l0 k l0 (([] : List ByteArray)) l0 (l0.length : Int) 0) = some r := h; clear h; obtain ⟨y169, hy169⟩ : ∃ y_ : List ByteArray, y_ = (([] : List ByteArray)) := ⟨_, rfl⟩; replace H : (impl_FieldsOk.l0 k l0 y169 l0 (l0.length : Int) 0) = some r := by first | (rw [hy169]; with_reducible exact H) | (have H2_ := (Option.bind_some _ _).symm.trans H; rw [hy169]; with_reducible exact H2_) | (have H2_ := (Option.bind_some _ _).symm.trans H; with_reducible exact H2_) | with_reducible exact H | (rw [hy169]; exact H) | exact H
 have Ny169 := am_ hy169; clear hy169; have H' := am_ H; clear H; go_enter Tryz.func25, Tryz.ntmps25
 go_wp2_with (first | ((with_reducible refine gate_dst (N := 7) rfl ?_); refine Kd.R_lit Kd.string _ 9 ?hg (N := 7) ?hd (xs := ([] : List ByteArray)) (inner := []) (ok := fun _ => True) (okp := fun _ => True) ?hr ?hp (fun _ hk => hk) trivial (Below.refl _ _) (Nat.le_refl _) u65_ ?_; (case hd => rfl); (case hg => rfl); (case hr => exact u30_); (case hp => exact u89_); intro v170 w2 ho3 hb hg_ hnew_; clear hg_ hnew_; (first | rw [← Ny169.out] at ho3 | (simp only [Int.reduceToNat] at ho3; rw [← Ny169.out] at ho3)); have HO171 := am_ (Kd.R_lower ho3 (below_size u5_)); replace HB := am_ (below_step u5_ hb); clear hb ho3))
 go_loopg [3, 10] k (fun kq v3 v10 w' => ∃ (x3_1 : List ByteArray) (x10_1 : Int), v10 = .int .i64 x10_1 ∧ Aside0 (impl_FieldsOk.l0 kq l0 x3_1 l0 (l0.length : Int) x10_1 = some r) ∧ Aside0 (kq ≤ k) ∧ Aside0 (Kd.R Kd.string 9 w' w.heap.size (fun _ => True) v3 x3_1) ∧ Aside0 (Below w.heap.size w w'))
 case atStart => exact ⟨(y169), (0), u20_, H', ⟨Nat.le_refl _⟩, ⟨by (with_reducible repeat (first | apply Kd.R_alloc | apply Kd.R_drewN | apply Kd.R_drew)); exact HO171.out⟩, ⟨u5_⟩⟩
 case round =>
  clear H'; try clear c2
  try clear p2
  obtain ⟨x3_1, x10_1, rfl, HA, HK1, HO_3, HB⟩ := hrel; cases gk with
  | zero => exact absurd HA.out (by simp [impl_FieldsOk.l0])
  | succ k1 =>
   have H := HA.out; clear HA; simp only [impl_FieldsOk.l0] at H; by_cases c4 : x10_1 < (l0.length : Int)
   ·rw [if_pos c4] at H; have c4b0 : decide (x10_1 < (l0.length : Int)) = true := decide_eq_true c4; clear c4; by_cases c5 : 0 ≤ x10_1
    ·rw [if_pos c5] at H; have c5b0 : decide (0 ≤ x10_1) = true := decide_eq_true c5; clear c5; by_cases c6 : x10_1 < (l0.length : Int)
     ·rw [if_pos c6] at H; have c6b0 : decide (x10_1 < (l0.length : Int)) = true := decide_eq_true c6; clear c6; have HC7 := am_ H; clear H; have p173 : 0 ≤ (x10_1 : Int) := of_decide_eq_true u2_; have q173 : x10_1 < (l0.length : Int) := of_decide_eq_true u2_; obtain ⟨ad173, e173, hx173_0, hx173_1, hx173_2⟩ := at_T79 HR0.out x10_1 p173 q173; cases e173; replace hx173_0 := (HB.out.cell (World.block_lt_of_cell? w _ hx173_0)).trans hx173_0; replace hx173_1 := (HB.out.cell (World.block_lt_of_cell? w _ hx173_1)).trans hx173_1; replace hx173_2 := (HB.out.cell (World.block_lt_of_cell? w _ hx173_2)).trans hx173_2; replace p173 := eq_true p173; replace q173 := eq_true q173; go_upto_if 19 with (first | ((with_reducible refine gate_dst (N := 5) rfl ?_); refine box_event ?hg (N := 5) ?hd (cs := #[.string (⟨#[]⟩ : ByteArray), .int .i64 0, .int .i64 0]) (t := 79) ?hr ?_; (case hd => rfl); (case hg => rfl); (case hr => exact u30_); intro gb174 hg w8 hbox hb; replace HO_3 := am_ (Kd.R_below u97_ hb); have BK174 := am_ (hbox); have GW174 := am_ ((by rw [hg]; exact (below_size u5_) : w.heap.size ≤ gb174)); have GE174 := GW174; replace HB := am_ (below_step u5_ hb); clear hb hbox hg; have hcz9_0 : w8.cell? ⟨gb174, 0, none⟩ = some (.string (⟨#[]⟩ : ByteArray)) := (blk_cell BK174.out 0).trans rfl; have hcz9_1 : w8.cell? ⟨gb174, 1, none⟩ = some (.int .i64 0) := (blk_cell BK174.out 1).trans rfl; have hcz9_2 : w8.cell? ⟨gb174, 2, none⟩ = some (.int .i64 0) := (blk_cell BK174.out 2).trans rfl; have hfz9_0 := blk_frozen BK174.out 0; have hfz9_1 := blk_frozen BK174.out 1; have hfz9_2 := blk_frozen BK174.out 2))
      (try simp only [Act.put, List.setIfInBounds_toArray, List.set_cons_zero, List.set_cons_succ])
      go_cut [6] (fun v6 wc => ∃ (kq : Nat) (x6_6 : Bool), v6 = .bool x6_6 ∧ Aside0 (impl_FieldsOk.j1 kq l0 x3_1 x6_6 l0 (l0.length : Int) x10_1 ((rd_T79 l0 x10_1).f0) ((rd_T79 l0 x10_1).f1) ((rd_T79 l0 x10_1).f2) = some r) ∧ Aside0 (kq ≤ k1) ∧ Aside0 (Kd.R Kd.string 9 wc w.heap.size (fun _ => True) u3 x3_1) ∧ Aside0 (wc.heap[gb174]? = some (.cells #[.string ((rd_T79 l0 x10_1).f0), .int .i64 ((rd_T79 l0 x10_1).f1), .int .i64 ((rd_T79 l0 x10_1).f2)] 79 (0, 0))) ∧ Aside0 (Below w.heap.size w wc))
      case first =>
       have H := HC7.out; clear HC7; by_cases c10 : ((rd_T79 l0 x10_1).f1) = 1
       ·rw [if_pos c10] at H; have c10b0 : (((rd_T79 l0 x10_1).f1) == 1) = true := beq_iff_eq.mpr c10; have c10b1 : (((rd_T79 l0 x10_1).f1) != 1) = false := bne_eq_false_iff_eq.mpr c10; clear c10; (first | rw [c10b0] | (simp only [i64_w, i32_w]; rw [c10b0]) | skip)
        replace H := Option.bind_eq_some_iff.mp H; obtain ⟨t175, A110, H⟩ := H; replace H : (impl_FieldsOk.j1 k1 l0 x3_1 t175 l0 (l0.length : Int) x10_1 ((rd_T79 l0 x10_1).f0) ((rd_T79 l0 x10_1).f1) ((rd_T79 l0 x10_1).f2)) = some r := H; have A11 := am_ A110; clear A110; have H' := am_ H; clear H; have hcz12_0 : w8.cell? ⟨gb174, 0, none⟩ = some (.string (⟨#[]⟩ : ByteArray)) := (blk_cell BK174.out 0).trans rfl; have hcz12_1 : w8.cell? ⟨gb174, 1, none⟩ = some (.int .i64 0) := (blk_cell BK174.out 1).trans rfl; have hcz12_2 : w8.cell? ⟨gb174, 2, none⟩ = some (.int .i64 0) := (blk_cell BK174.out 2).trans rfl; have hfz12_0 := blk_frozen BK174.out 0; have hfz12_1 := blk_frozen BK174.out 1; have hfz12_2 := blk_frozen BK174.out 2; go_wp2_with (first | ((with_reducible refine gate_callee (f := 30) rfl ?_); refine goesL_ (some 22) rfl rfl Tryz.func30 u10_ rfl #[.int .i64 ((rd_T79 l0 x10_1).f2), .int .i64 1, .int .i64 9] rfl u3_ ?_; (with_reducible refine (impl_within.calls ((rd_T79 l0 x10_1).f2) 1 9 t175 _ A11.out).mono ?_); rintro e w' ⟨rfl, ⟨nd, rfl⟩⟩; refine ⟨_, rfl, ?_⟩))
        go_meet
        case rel => exact ⟨_, (t175), u20_, H', ⟨u79_⟩, ⟨u110_⟩, ⟨u39_⟩, ⟨u26_⟩⟩
       ·rw [if_neg c10] at H; have c10b0 : (((rd_T79 l0 x10_1).f1) == 1) = false := beq_eq_false_iff_ne.mpr c10; have c10b1 : (((rd_T79 l0 x10_1).f1) != 1) = true := bne_iff_ne.mpr c10; (first | rw [c10b0] | (simp only [i64_w, i32_w]; rw [c10b0]) | skip)
        have H' := am_ H; clear H; go_wp2; go_meet
        case rel => exact ⟨_, ((((rd_T79 l0 x10_1).f2) == 0)), u20_, H', ⟨u79_⟩, ⟨u110_⟩, ⟨u39_⟩, ⟨u26_⟩⟩
      case rest =>
       clear HC7; try clear c1
       try clear p1
       try clear q1
       try clear hx1
       try clear c2
       try clear p2
       try clear c3
       try clear c4
       try clear c4b0
       try clear c5
       try clear c5b0
       try clear c6
       try clear c6b0
       try clear c10
       try clear c10b0
       try clear c10b1
       try clear hcz12_0
       try clear hcz12_1
       try clear hcz12_2
       try clear hcz9_0
       try clear hcz9_1
       try clear hcz9_2
       try clear hfz12_0
       try clear hfz12_1
       try clear hfz12_2
       try clear hfz9_0
       try clear hfz9_1
       try clear hfz9_2
       try clear hx173_0
       try clear hx173_1
       try clear hx173_2
       try clear p173
       try clear p2
       try clear q173
       obtain ⟨kq, x6_6, rfl, HA, HJ6, HO_3, BK174, HB⟩ := hcut; cases kq with
       | zero => exact absurd HA.out (by simp [impl_FieldsOk.j1])
       | succ kj6 =>
        have H := HA.out; clear HA; simp only [impl_FieldsOk.j1] at H; replace H := Option.bind_eq_some_iff.mp H; obtain ⟨t176, A130, H⟩ := H; replace H : (if t176 = true then ((slices_Contains_string_string.f kj6 x3_1 ((rd_T79 l0 x10_1).f0)).bind fun t177 => (if t177 = true then (some false) else ((impl_within.f ((rd_T79 l0 x10_1).f1) 1 3).bind fun t178 => (if t178 = true then (if x6_6 = true then (if x3_1.length < 8796093022208 then (impl_FieldsOk.l0 kj6 l0 (x3_1 ++ [((rd_T79 l0 x10_1).f0)]) l0 (l0.length : Int) (wrap64 (x10_1 + 1))) else (none)) else (some false)) else (some false))))) else (some false)) = some r := H; have A13 := am_ A130; clear A130; by_cases c14 : t176 = true
        ·subst c14; rw [if_pos rfl] at H; replace H := Option.bind_eq_some_iff.mp H; obtain ⟨t177, A150, H⟩ := H; replace H : (if t177 = true then (some false) else ((impl_within.f ((rd_T79 l0 x10_1).f1) 1 3).bind fun t178 => (if t178 = true then (if x6_6 = true then (if x3_1.length < 8796093022208 then (impl_FieldsOk.l0 kj6 l0 (x3_1 ++ [((rd_T79 l0 x10_1).f0)]) l0 (l0.length : Int) (wrap64 (x10_1 + 1))) else (none)) else (some false)) else (some false)))) = some r := H; have A15 := am_ A150; clear A150; by_cases c16 : t177 = true
         ·subst c16; rw [if_pos rfl] at H; obtain rfl := Option.some.inj H; have hcz17_0 : wc.cell? ⟨gb174, 0, none⟩ = some (.string ((rd_T79 l0 x10_1).f0)) := (blk_cell BK174.out 0).trans rfl; have hcz17_1 : wc.cell? ⟨gb174, 1, none⟩ = some (.int .i64 ((rd_T79 l0 x10_1).f1)) := (blk_cell BK174.out 1).trans rfl; have hcz17_2 : wc.cell? ⟨gb174, 2, none⟩ = some (.int .i64 ((rd_T79 l0 x10_1).f2)) := (blk_cell BK174.out 2).trans rfl; have hfz17_0 := blk_frozen BK174.out 0; have hfz17_1 := blk_frozen BK174.out 1; have hfz17_2 := blk_frozen BK174.out 2; go_wp2_with (first | ((with_reducible refine gate_callee (f := 53) rfl ?_); refine goesL_ (some 25) rfl rfl Tryz.func53 u10_ rfl #[.string ((rd_T79 l0 x10_1).f0)] rfl u3_ ?_; (with_reducible refine (impl_NameOk.calls kj6 ((rd_T79 l0 x10_1).f0) true _ A13.out).mono ?_); rintro e w' ⟨rfl, ⟨nd, rfl⟩⟩; refine ⟨_, rfl, ?_⟩; obtain ⟨Ao18, co18, eo18⟩ := Kd.R_slice HO_3.out; subst eo18) | (go_at_call 54; (with_reducible refine (slices_Contains_string_string.calls kj6 _ _ x3_1 ((rd_T79 l0 x10_1).f0) true _ ?side1 ?side2 A15.out).mono ?_); (case side1 => exact u50_); (case side2 => exact (Kd.R_reads' HO_3.out).2.1); rintro e w' ⟨rfl, ⟨nd, rfl⟩⟩))
          go_ret
          exact ⟨u8_, u26_⟩
         ·replace c16 := Bool.eq_false_iff.mpr c16; subst c16; rw [if_neg (show ¬ (false = true) by decide)] at H; replace H := Option.bind_eq_some_iff.mp H; obtain ⟨t178, A190, H⟩ := H; replace H : (if t178 = true then (if x6_6 = true then (if x3_1.length < 8796093022208 then (impl_FieldsOk.l0 kj6 l0 (x3_1 ++ [((rd_T79 l0 x10_1).f0)]) l0 (l0.length : Int) (wrap64 (x10_1 + 1))) else (none)) else (some false)) else (some false)) = some r := H; have A19 := am_ A190; clear A190; by_cases c20 : t178 = true
          ·subst c20; rw [if_pos rfl] at H; by_cases c21 : x6_6 = true
           ·subst c21; rw [if_pos rfl] at H; by_cases c22 : x3_1.length < 8796093022208
            ·rw [if_pos c22] at H; have LMc22 := am_ c22; clear c22; obtain ⟨y179, hy179⟩ : ∃ y_ : List ByteArray, y_ = (x3_1 ++ [((rd_T79 l0 x10_1).f0)]) := ⟨_, rfl⟩; replace H : (impl_FieldsOk.l0 kj6 l0 y179 l0 (l0.length : Int) (wrap64 (x10_1 + 1))) = some r := by first | (rw [hy179]; with_reducible exact H) | (have H2_ := (Option.bind_some _ _).symm.trans H; rw [hy179]; with_reducible exact H2_) | (have H2_ := (Option.bind_some _ _).symm.trans H; with_reducible exact H2_) | with_reducible exact H | (rw [hy179]; exact H) | exact H
             have Ny179 := am_ hy179; clear hy179; have H' := am_ H; clear H; have hcz23_0 : wc.cell? ⟨gb174, 0, none⟩ = some (.string ((rd_T79 l0 x10_1).f0)) := (blk_cell BK174.out 0).trans rfl; have hcz23_1 : wc.cell? ⟨gb174, 1, none⟩ = some (.int .i64 ((rd_T79 l0 x10_1).f1)) := (blk_cell BK174.out 1).trans rfl; have hcz23_2 : wc.cell? ⟨gb174, 2, none⟩ = some (.int .i64 ((rd_T79 l0 x10_1).f2)) := (blk_cell BK174.out 2).trans rfl; have hfz23_0 := blk_frozen BK174.out 0; have hfz23_1 := blk_frozen BK174.out 1; have hfz23_2 := blk_frozen BK174.out 2; go_wp2_with (first | ((with_reducible refine gate_callee (f := 53) rfl ?_); refine goesL_ (some 25) rfl rfl Tryz.func53 u10_ rfl #[.string ((rd_T79 l0 x10_1).f0)] rfl u3_ ?_; (with_reducible refine (impl_NameOk.calls kj6 ((rd_T79 l0 x10_1).f0) true _ A13.out).mono ?_); rintro e w' ⟨rfl, ⟨nd, rfl⟩⟩; refine ⟨_, rfl, ?_⟩; obtain ⟨Ao24, co24, eo24⟩ := Kd.R_slice HO_3.out; subst eo24) | (go_at_call 54; (with_reducible refine (slices_Contains_string_string.calls kj6 _ _ x3_1 ((rd_T79 l0 x10_1).f0) false _ ?side1 ?side2 A15.out).mono ?_); (case side1 => exact u50_); (case side2 => exact (Kd.R_reads' HO_3.out).2.1); rintro e w' ⟨rfl, ⟨nd, rfl⟩⟩) | (go_at_call 30; (with_reducible refine (impl_within.calls ((rd_T79 l0 x10_1).f1) 1 3 true _ A19.out).mono ?_); rintro e w' ⟨rfl, ⟨nd, rfl⟩⟩) | ((with_reducible refine gate_builtin (b := .append) (xs := #[.tmp 43, .tmp 46]) rfl ?_); at_builtin; refine Kd.R_append Kd.string (w0 := w) w.heap.size rfl (.tmp 43) (.tmp 46) 40 9 (.string ⟨#[]⟩) 16 rfl Tryz.underlying40 info9 rfl u44_ u81_ (.slice Ao24 x3_1.length co24) x3_1 ((rd_T79 l0 x10_1).f0) [.string ((rd_T79 l0 x10_1).f0)] (fun _ => True) (fun _ => False) rfl rfl ?aP (fun _ hk => hk.elim) ?aF ?aO ?aB ?aS ?aL ?_; (case aP => exact rfl); (case aB => exact u26_); (case aF => exact (fun _ _ => trivial)); (case aO => exact u97_); (case aS => exact (below_size u26_)); (case aL => have := LMc22.out; omega); intro v180 w25 ho hb hg hat; rw [← Ny179.out] at ho; replace BK174 := am_ (blk_grown (g := gb174) (o := .cells #[.string ((rd_T79 l0 x10_1).f0), .int .i64 ((rd_T79 l0 x10_1).f1), .int .i64 ((rd_T79 l0 x10_1).f2)] 79 (0, 0)) (by (with_reducible repeat (first | refine blk_drewN ?_ _ | refine blk_drew ?_ | refine blk_alloc ?_ _)); exact BK174.out) hg (Kd.R_ne HO_3.out BK174.out u44_)); replace HB := am_ (hb); have HO181 := am_ (ho); clear HO_3 ho hb hg hat))
             go_roundg kj6
             case measure => have := HK1.out; have := HJ6.out; omega
             case rel => exact ⟨(y179), (wrap64 (x10_1 + 1)), u20_, H', ⟨by have := HK1.out; have := HJ6.out; omega⟩, ⟨by (with_reducible repeat (first | apply Kd.R_alloc | apply Kd.R_drewN | apply Kd.R_drew)); exact HO181.out⟩, ⟨u26_⟩⟩
            ·rw [if_neg c22] at H; exact absurd H u65_
           ·replace c21 := Bool.eq_false_iff.mpr c21; subst c21; rw [if_neg (show ¬ (false = true) by decide)] at H; obtain rfl := Option.some.inj H; have hcz26_0 : wc.cell? ⟨gb174, 0, none⟩ = some (.string ((rd_T79 l0 x10_1).f0)) := (blk_cell BK174.out 0).trans rfl; have hcz26_1 : wc.cell? ⟨gb174, 1, none⟩ = some (.int .i64 ((rd_T79 l0 x10_1).f1)) := (blk_cell BK174.out 1).trans rfl; have hcz26_2 : wc.cell? ⟨gb174, 2, none⟩ = some (.int .i64 ((rd_T79 l0 x10_1).f2)) := (blk_cell BK174.out 2).trans rfl; have hfz26_0 := blk_frozen BK174.out 0; have hfz26_1 := blk_frozen BK174.out 1; have hfz26_2 := blk_frozen BK174.out 2; go_wp2_with (first | ((with_reducible refine gate_callee (f := 53) rfl ?_); refine goesL_ (some 25) rfl rfl Tryz.func53 u10_ rfl #[.string ((rd_T79 l0 x10_1).f0)] rfl u3_ ?_; (with_reducible refine (impl_NameOk.calls kj6 ((rd_T79 l0 x10_1).f0) true _ A13.out).mono ?_); rintro e w' ⟨rfl, ⟨nd, rfl⟩⟩; refine ⟨_, rfl, ?_⟩; obtain ⟨Ao27, co27, eo27⟩ := Kd.R_slice HO_3.out; subst eo27) | (go_at_call 54; (with_reducible refine (slices_Contains_string_string.calls kj6 _ _ x3_1 ((rd_T79 l0 x10_1).f0) false _ ?side1 ?side2 A15.out).mono ?_); (case side1 => exact u50_); (case side2 => exact (Kd.R_reads' HO_3.out).2.1); rintro e w' ⟨rfl, ⟨nd, rfl⟩⟩) | (go_at_call 30; (with_reducible refine (impl_within.calls ((rd_T79 l0 x10_1).f1) 1 3 true _ A19.out).mono ?_); rintro e w' ⟨rfl, ⟨nd, rfl⟩⟩))
            go_ret
            exact ⟨u8_, u26_⟩
          ·replace c20 := Bool.eq_false_iff.mpr c20; subst c20; rw [if_neg (show ¬ (false = true) by decide)] at H; obtain rfl := Option.some.inj H; have hcz28_0 : wc.cell? ⟨gb174, 0, none⟩ = some (.string ((rd_T79 l0 x10_1).f0)) := (blk_cell BK174.out 0).trans rfl; have hcz28_1 : wc.cell? ⟨gb174, 1, none⟩ = some (.int .i64 ((rd_T79 l0 x10_1).f1)) := (blk_cell BK174.out 1).trans rfl; have hcz28_2 : wc.cell? ⟨gb174, 2, none⟩ = some (.int .i64 ((rd_T79 l0 x10_1).f2)) := (blk_cell BK174.out 2).trans rfl; have hfz28_0 := blk_frozen BK174.out 0; have hfz28_1 := blk_frozen BK174.out 1; have hfz28_2 := blk_frozen BK174.out 2; go_wp2_with (first | ((with_reducible refine gate_callee (f := 53) rfl ?_); refine goesL_ (some 25) rfl rfl Tryz.func53 u10_ rfl #[.string ((rd_T79 l0 x10_1).f0)] rfl u3_ ?_; (with_reducible refine (impl_NameOk.calls kj6 ((rd_T79 l0 x10_1).f0) true _ A13.out).mono ?_); rintro e w' ⟨rfl, ⟨nd, rfl⟩⟩; refine ⟨_, rfl, ?_⟩; obtain ⟨Ao29, co29, eo29⟩ := Kd.R_slice HO_3.out; subst eo29) | (go_at_call 54; (with_reducible refine (slices_Contains_string_string.calls kj6 _ _ x3_1 ((rd_T79 l0 x10_1).f0) false _ ?side1 ?side2 A15.out).mono ?_); (case side1 => exact u50_); (case side2 => exact (Kd.R_reads' HO_3.out).2.1); rintro e w' ⟨rfl, ⟨nd, rfl⟩⟩) | (go_at_call 30; (with_reducible refine (impl_within.calls ((rd_T79 l0 x10_1).f1) 1 3 false _ A19.out).mono ?_); rintro e w' ⟨rfl, ⟨nd, rfl⟩⟩))
           go_ret
           exact ⟨u8_, u26_⟩
        ·replace c14 := Bool.eq_false_iff.mpr c14; subst c14; rw [if_neg (show ¬ (false = true) by decide)] at H; obtain rfl := Option.some.inj H; have hcz30_0 : wc.cell? ⟨gb174, 0, none⟩ = some (.string ((rd_T79 l0 x10_1).f0)) := (blk_cell BK174.out 0).trans rfl; have hcz30_1 : wc.cell? ⟨gb174, 1, none⟩ = some (.int .i64 ((rd_T79 l0 x10_1).f1)) := (blk_cell BK174.out 1).trans rfl; have hcz30_2 : wc.cell? ⟨gb174, 2, none⟩ = some (.int .i64 ((rd_T79 l0 x10_1).f2)) := (blk_cell BK174.out 2).trans rfl; have hfz30_0 := blk_frozen BK174.out 0; have hfz30_1 := blk_frozen BK174.out 1; have hfz30_2 := blk_frozen BK174.out 2; go_wp2_with (first | ((with_reducible refine gate_callee (f := 53) rfl ?_); refine goesL_ (some 25) rfl rfl Tryz.func53 u10_ rfl #[.string ((rd_T79 l0 x10_1).f0)] rfl u3_ ?_; (with_reducible refine (impl_NameOk.calls kj6 ((rd_T79 l0 x10_1).f0) false _ A13.out).mono ?_); rintro e w' ⟨rfl, ⟨nd, rfl⟩⟩; refine ⟨_, rfl, ?_⟩))
         go_ret
         exact ⟨u8_, u26_⟩
     ·exact u116_
    ·exact u111_
   ·rw [if_neg c4] at H; have c4b0 : decide (x10_1 < (l0.length : Int)) = false := decide_eq_false c4; clear c4; replace H := Option.bind_eq_some_iff.mp H; obtain ⟨t172, A310, H⟩ := H; replace H : (some t172) = some r := H; have A31 := am_ A310; clear A310; obtain rfl := Option.some.inj H; go_wp2_with (first | ((with_reducible refine gate_callee (f := 30) rfl ?_); refine goesL_ (some 51) rfl rfl Tryz.func30 u10_ rfl #[.int .i64 (l0.length : Int), .int .i64 1, .int .i64 4] rfl u3_ ?_; (with_reducible refine (impl_within.calls (l0.length : Int) 1 4 t172 _ A31.out).mono ?_); rintro e w' ⟨rfl, ⟨nd, rfl⟩⟩; refine ⟨_, rfl, ?_⟩))
    go_ret
    exact ⟨u8_, u5_⟩

/-! ### impl_IndexNew: function 6 -/
def impl_IndexNew.f (k : Nat) (l0 : List (S79)) : Option ((List (S79)) × (List (S59)) × (List (S62)) × Int × Bool) := (impl_FieldsOk.f k l0).bind fun t183 => (if t183 = true then ((some (([] : List (S79)) : List (S79))).bind fun y184 => (if y184.length + l0.length < 4398046511104 then (some ((y184 ++ l0), (([] : List (S59))), (([] : List (S62))), 0, true)) else (none))) else (some (([] : List (S79)), ([] : List (S59)), ([] : List (S62)), 0, false)))
theorem impl_IndexNew.mono : ∀ a0 k, LeO (impl_IndexNew.f k a0) (impl_IndexNew.f (k + 1) a0) := by
 intro a0 k; unfold impl_IndexNew.f
 repeat' first
   | (with_reducible exact impl_FieldsOk.mono _ _)
   | (with_reducible exact LeO.refl _)
   | (with_reducible exact LeO.none _)
   | (with_reducible refine LeO.ite ?_ ?_)
   | (with_reducible refine LeO.bind ?_ (fun _ => ?_))
   | exact impl_FieldsOk.mono _ _
   | exact LeO.none _
   | refine LeO.ite ?_ ?_
   | refine LeO.bind ?_ (fun _ => ?_)
set_option maxHeartbeats 8000000 in
set_option maxRecDepth 100000 in
theorem impl_IndexNew.calls (k : Nat) (A0 : Option Addr) (c0 : Nat) (l0 : List (S79)) (r1 : List (S79)) (r2 : List (S59)) (r3 : List (S62)) (r4 : Int) (r5 : Bool) (w : World) (hr0 : Kd.C k79 w A0 l0.length l0) (hc0 : l0.length ≤ c0) (h : impl_IndexNew.f k l0 = some (r1, r2, r3, r4, r5)) :
  Calls Tryz.prog 6 #[.slice A0 l0.length c0] w fun e w' => ∃ v0_ v1_ v2_ : Value, e = .returned (.tuple #[.agg #[v0_, v1_, v2_, .int .i64 r4], .bool r5]) ∧ Kd.R k79 79 w' w.heap.size (fun _ => True) v0_ r1 ∧ Kd.S k59 59 w' w.heap.size (fun _ => True) v1_ r2 ∧ Kd.R k62 62 w' w.heap.size (fun _ => True) v2_ r3 ∧ Below w.heap.size w w' := by
 have hu28 := Tryz.underlying28; have HR0 := am_ hr0; have HC0 := am_ hc0; clear hr0 hc0; have HB := am_ (Below.refl w.heap.size w); have H : ((impl_FieldsOk.f k l0).bind fun t183 => (if t183 = true then ((some (([] : List (S79)) : List (S79))).bind fun y184 => (if y184.length + l0.length < 4398046511104 then (some ((y184 ++ l0), (([] : List (S59))), (([] : List (S62))), 0, true)) else (none))) else (some (([] : List (S79)), ([] : List (S59)), ([] : List (S62)), 0, false)))) = some (r1, r2, r3, r4, r5) := h; clear h; replace H := Option.bind_eq_some_iff.mp H; obtain ⟨t183, A20, H⟩ := H; replace H : (if t183 = true then ((some (([] : List (S79)) : List (S79))).bind fun y184 => (if y184.length + l0.length < 4398046511104 then (some ((y184 ++ l0), (([] : List (S59))), (([] : List (S62))), 0, true)) else (none))) else (some (([] : List (S79)), ([] : List (S59)), ([] : List (S62)), 0, false))) = some (r1, r2, r3, r4, r5) := H; have A2 := am_ A20; clear A20; by_cases c3 : t183 = true
 ·subst c3; rw [if_pos rfl] at H; obtain ⟨y184, hy184⟩ : ∃ y_ : List (S79), y_ = (([] : List (S79))) := ⟨_, rfl⟩; replace H : (if y184.length + l0.length < 4398046511104 then (some ((y184 ++ l0), (([] : List (S59))), (([] : List (S62))), 0, true)) else (none)) = some (r1, r2, r3, r4, r5) := by first | (rw [hy184]; with_reducible exact H) | (have H2_ := (Option.bind_some _ _).symm.trans H; rw [hy184]; with_reducible exact H2_) | (have H2_ := (Option.bind_some _ _).symm.trans H; with_reducible exact H2_) | with_reducible exact H | (rw [hy184]; exact H) | exact H
  have Ny184 := am_ hy184; clear hy184; by_cases c4 : y184.length + l0.length < 4398046511104
  ·rw [if_pos c4] at H; have LMc4 := am_ c4; clear c4; obtain ⟨y187, hy187⟩ : ∃ y_ : List (S79), y_ = (y184 ++ l0) := ⟨_, rfl⟩; replace H : (some (y187, (([] : List (S59))), (([] : List (S62))), 0, true)) = some (r1, r2, r3, r4, r5) := by first | (rw [hy187]; with_reducible exact H) | (have H2_ := (Option.bind_some _ _).symm.trans H; rw [hy187]; with_reducible exact H2_) | (have H2_ := (Option.bind_some _ _).symm.trans H; with_reducible exact H2_) | with_reducible exact H | (rw [hy187]; exact H) | exact H
   have Ny187 := am_ hy187; clear hy187; obtain ⟨y190, hy190⟩ : ∃ y_ : List (S59), y_ = (([] : List (S59))) := ⟨_, rfl⟩; replace H : (some (y187, y190, (([] : List (S62))), 0, true)) = some (r1, r2, r3, r4, r5) := by first | (rw [hy190]; with_reducible exact H) | (have H2_ := (Option.bind_some _ _).symm.trans H; rw [hy190]; with_reducible exact H2_) | (have H2_ := (Option.bind_some _ _).symm.trans H; with_reducible exact H2_) | with_reducible exact H | (rw [hy190]; exact H) | exact H
   have Ny190 := am_ hy190; clear hy190; obtain ⟨y193, hy193⟩ : ∃ y_ : List (S62), y_ = (([] : List (S62))) := ⟨_, rfl⟩; replace H : (some (y187, y190, y193, 0, true)) = some (r1, r2, r3, r4, r5) := by first | (rw [hy193]; with_reducible exact H) | (have H2_ := (Option.bind_some _ _).symm.trans H; rw [hy193]; with_reducible exact H2_) | (have H2_ := (Option.bind_some _ _).symm.trans H; with_reducible exact H2_) | with_reducible exact H | (rw [hy193]; exact H) | exact H
   have Ny193 := am_ hy193; clear hy193; simp only [Option.some.injEq, Prod.mk.injEq] at H; obtain ⟨rfl, rfl, rfl, rfl, rfl⟩ := H; go_enter Tryz.func6, Tryz.ntmps6
   go_wp2_with (first | ((with_reducible refine gate_dst (N := 2) rfl ?_); refine box_event ?hg (N := 2) ?hd (cs := #[.slice none 0 0, .slice none 0 0, .slice none 0 0, .int .i64 0]) (t := 28) ?hr ?_; (case hd => rfl); (case hg => rfl); (case hr => exact u30_); intro gb182 hg w5 hbox hb; have BK182 := am_ (hbox); have GW182 := am_ ((by rw [hg]; exact (below_size u5_) : w.heap.size ≤ gb182)); have GE182 := GW182; replace HB := am_ (below_step u5_ hb); clear hb hbox hg) | ((with_reducible refine gate_callee (f := 25) rfl ?_); refine goesL_ (some 5) rfl rfl Tryz.func25 u10_ rfl #[.slice A0 l0.length c0] rfl u3_ ?_; (with_reducible refine (impl_FieldsOk.calls k _ _ l0 true _ ?side1 ?side2 A2.out).mono ?_); (case side1 => exact u33_); (case side2 => exact HC0.out); rintro e w6 ⟨rfl, hb⟩; refine ⟨_, rfl, ?_⟩; replace BK182 := am_ (blk_below (g := gb182) (o := .cells #[.slice none 0 0, .slice none 0 0, .slice none 0 0, .int .i64 0] 28 (0, 0)) u45_ hb); replace HB := am_ (below_step u22_ hb); (try clear hb); (try clear hb2); (try clear hk); (try clear hi)) | ((with_reducible refine gate_dst (N := 8) rfl ?_); refine Kd.R_lit k79 _ 79 ?hg (N := 8) ?hd (xs := ([] : List (S79))) (inner := []) (ok := fun _ => True) (okp := fun _ => True) ?hr ?hp (fun _ hk => hk) trivial (Below.refl _ _) (Nat.le_refl _) u65_ ?_; (case hd => rfl); (case hg => rfl); (case hr => exact u30_); (case hp => exact u89_); intro v185 w7 ho8 hb hg_ hnew_; clear hg_ hnew_; (first | rw [← Ny184.out] at ho8 | (simp only [Int.reduceToNat] at ho8; rw [← Ny184.out] at ho8)); have HO186 := am_ (Kd.R_lower ho8 (below_size u22_)); replace BK182 := am_ (blk_below (g := gb182) (o := .cells #[.slice none 0 0, .slice none 0 0, .slice none 0 0, .int .i64 0] 28 (0, 0)) u45_ hb); replace HB := am_ (below_step u22_ hb); clear hb ho8) | ((with_reducible refine gate_builtin (b := .append) (xs := #[.tmp 8, .tmp 9]) rfl ?_); at_builtin; refine Kd.R_append_rows k79 (w0 := w) w.heap.size rfl (.tmp 8) (.tmp 9) 23 79 (.agg #[(.string ⟨#[]⟩), (.int .i64 0), (.int .i64 0)]) 32 rfl Tryz.underlying23 info79 rfl u44_ u81_ v185 y184 l0 _ _ _ (fun _ => True) (fun _ => False) rfl rfl ?aO ?aR (fun _ _ h => h) (fun _ h => h.elim) ?aF ?aB ?aS ?aL ?_; (case aR => exact u33_); (case aB => exact u22_); (case aF => exact (fun _ _ => trivial)); (case aO => exact (by (with_reducible repeat (first | apply Kd.R_alloc | apply Kd.R_drewN | apply Kd.R_drew)); exact HO186.out)); (case aS => exact (below_size u22_)); (case aL => have := LMc4.out; omega); intro v188 w9 ho hb hg hat; rw [← Ny187.out] at ho; replace BK182 := am_ (blk_grown (g := gb182) (o := .cells #[.slice none 0 0, .slice none 0 0, .slice none 0 0, .int .i64 0] 28 (0, 0)) u45_ hg (Kd.R_ne HO186.out BK182.out u44_)); replace HB := am_ (hb); have HO189 := am_ (ho); clear HO186 ho hb hg hat) | ((with_reducible refine gate_dst (N := 11) rfl ?_); refine Kd.S_lit k59 _ 59 ?hg (N := 11) ?hd (xs := ([] : List (S59))) (inner := []) (ok := fun _ => True) (okp := fun _ => True) ?hr ?hp (fun _ hk => hk) trivial (Below.refl _ _) (Nat.le_refl _) u65_ ?_; (case hd => rfl); (case hg => rfl); (case hr => exact u30_); (case hp => exact u89_); intro v191 w10 ho11 hb hg_ hnew_; clear hg_ hnew_; (first | rw [← Ny190.out] at ho11 | (simp only [Int.reduceToNat] at ho11; rw [← Ny190.out] at ho11)); replace HO189 := am_ (Kd.R_below u93_ hb); have HO192 := am_ (Kd.S_lower ho11 (below_size u22_)); replace BK182 := am_ (blk_below (g := gb182) (o := .cells #[.slice none 0 0, .slice none 0 0, .slice none 0 0, .int .i64 0] 28 (0, 0)) u45_ hb); replace HB := am_ (below_step u22_ hb); clear hb ho11) | ((with_reducible refine gate_dst (N := 12) rfl ?_); refine Kd.R_lit k62 _ 62 ?hg (N := 12) ?hd (xs := ([] : List (S62))) (inner := []) (ok := fun _ => True) (okp := fun _ => True) ?hr ?hp (fun _ hk => hk) trivial (Below.refl _ _) (Nat.le_refl _) u65_ ?_; (case hd => rfl); (case hg => rfl); (case hr => exact u30_); (case hp => exact u89_); intro v194 w12 ho13 hb hg_ hnew_; clear hg_ hnew_; (first | rw [← Ny193.out] at ho13 | (simp only [Int.reduceToNat] at ho13; rw [← Ny193.out] at ho13)); replace HO189 := am_ (Kd.R_below u93_ hb); replace HO192 := am_ (Kd.S_below (by (with_reducible repeat (first | apply Kd.S_alloc | apply Kd.S_drewN | apply Kd.S_drew)); exact HO192.out) hb); have HO195 := am_ (Kd.R_lower ho13 (below_size u22_)); replace BK182 := am_ (blk_below (g := gb182) (o := .cells #[.slice none 0 0, .slice none 0 0, .slice none 0 0, .int .i64 0] 28 (0, 0)) u45_ hb); replace HB := am_ (below_step u22_ hb); clear hb ho13; obtain ⟨Ao14, co14, eo14⟩ := Kd.R_slice HO195.out; subst eo14; obtain ⟨Ao15, co15, eo15⟩ := Kd.S_slice HO192.out; subst eo15; obtain ⟨Ao16, co16, eo16⟩ := Kd.R_slice HO189.out; subst eo16; have hcz17_0 : w12.cell? ⟨gb182, 0, none⟩ = some (.slice none 0 0) := (blk_cell BK182.out 0).trans rfl; have hcz17_1 : w12.cell? ⟨gb182, 1, none⟩ = some (.slice none 0 0) := (blk_cell BK182.out 1).trans rfl; have hcz17_2 : w12.cell? ⟨gb182, 2, none⟩ = some (.slice none 0 0) := (blk_cell BK182.out 2).trans rfl; have hcz17_3 : w12.cell? ⟨gb182, 3, none⟩ = some (.int .i64 0) := (blk_cell BK182.out 3).trans rfl; have hfz17_0 := blk_frozen BK182.out 0; have hfz17_1 := blk_frozen BK182.out 1; have hfz17_2 := blk_frozen BK182.out 2; have hfz17_3 := blk_frozen BK182.out 3))
   refine bodyPost_ret (results_ct rfl _ _ gb182 28 #[.slice Ao16 y187.length co16, .slice Ao15 y190.length co15, .slice Ao14 y193.length co14, .int .i64 0] (0, 0) _ rfl (by (with_reducible repeat (first | refine blk_drewN ?_ _ | refine blk_drew ?_ | refine blk_alloc ?_ _)); refine blk_put (cs := #[.slice Ao16 y187.length co16, .slice Ao15 y190.length co15, .slice Ao14 y193.length co14, .int .i64 0]) ?_ 3 _ rfl; (with_reducible repeat (first | refine blk_drewN ?_ _ | refine blk_drew ?_ | refine blk_alloc ?_ _)); refine blk_put (cs := #[.slice Ao16 y187.length co16, .slice Ao15 y190.length co15, .slice none 0 0, .int .i64 0]) ?_ 2 _ rfl; (with_reducible repeat (first | refine blk_drewN ?_ _ | refine blk_drew ?_ | refine blk_alloc ?_ _)); refine blk_put (cs := #[.slice Ao16 y187.length co16, .slice none 0 0, .slice none 0 0, .int .i64 0]) ?_ 1 _ rfl; (with_reducible repeat (first | refine blk_drewN ?_ _ | refine blk_drew ?_ | refine blk_alloc ?_ _)); refine blk_put (cs := #[.slice none 0 0, .slice none 0 0, .slice none 0 0, .int .i64 0]) ?_ 0 _ rfl; (with_reducible repeat (first | refine blk_drewN ?_ _ | refine blk_drew ?_ | refine blk_alloc ?_ _)); exact BK182.out) Tryz.underlying28 rfl u10_) rfl ?_; exact ⟨_, _, _, u8_, by (with_reducible repeat (first | apply Kd.R_alloc | apply Kd.R_drewN | apply Kd.R_drew)); exact Kd.R_mono (Kd.R_far (p := ⟨gb182, 3, none⟩) (Kd.R_far (p := ⟨gb182, 2, none⟩) (Kd.R_far (p := ⟨gb182, 1, none⟩) (Kd.R_far (p := ⟨gb182, 0, none⟩) (Kd.R_types HO189.out BK182.out u44_) (fun _ hk => hk.2) (.slice Ao16 y187.length co16)) (fun _ hk => hk.2) (.slice Ao15 y190.length co15)) (fun _ hk => hk.2) (.slice Ao14 y193.length co14)) (fun _ hk => hk.2) (.int .i64 0)) (fun _ hk => trivial), by (with_reducible repeat (first | apply Kd.S_alloc | apply Kd.S_drewN | apply Kd.S_drew)); exact Kd.S_mono (Kd.S_far (p := ⟨gb182, 3, none⟩) (Kd.S_far (p := ⟨gb182, 2, none⟩) (Kd.S_far (p := ⟨gb182, 1, none⟩) (Kd.S_far (p := ⟨gb182, 0, none⟩) (Kd.S_types HO192.out BK182.out u44_) (fun _ hk => hk.2) (.slice Ao16 y187.length co16)) (fun _ hk => hk.2) (.slice Ao15 y190.length co15)) (fun _ hk => hk.2) (.slice Ao14 y193.length co14)) (fun _ hk => hk.2) (.int .i64 0)) (fun _ hk => trivial), by (with_reducible repeat (first | apply Kd.R_alloc | apply Kd.R_drewN | apply Kd.R_drew)); exact Kd.R_mono (Kd.R_far (p := ⟨gb182, 3, none⟩) (Kd.R_far (p := ⟨gb182, 2, none⟩) (Kd.R_far (p := ⟨gb182, 1, none⟩) (Kd.R_far (p := ⟨gb182, 0, none⟩) (Kd.R_types HO195.out BK182.out u44_) (fun _ hk => hk.2) (.slice Ao16 y187.length co16)) (fun _ hk => hk.2) (.slice Ao15 y190.length co15)) (fun _ hk => hk.2) (.slice Ao14 y193.length co14)) (fun _ hk => hk.2) (.int .i64 0)) (fun _ hk => trivial), u22_⟩
  ·exact u112_
 ·replace c3 := Bool.eq_false_iff.mpr c3; subst c3; rw [if_neg (show ¬ (false = true) by decide)] at H; simp only [Option.some.injEq, Prod.mk.injEq] at H; obtain ⟨rfl, rfl, rfl, rfl, rfl⟩ := H; go_enter Tryz.func6, Tryz.ntmps6
  go_wp2_with (first | ((with_reducible refine gate_dst (N := 2) rfl ?_); refine box_event ?hg (N := 2) ?hd (cs := #[.slice none 0 0, .slice none 0 0, .slice none 0 0, .int .i64 0]) (t := 28) ?hr ?_; (case hd => rfl); (case hg => rfl); (case hr => exact u30_); intro gb182 hg w18 hbox hb; have BK182 := am_ (hbox); have GW182 := am_ ((by rw [hg]; exact (below_size u5_) : w.heap.size ≤ gb182)); have GE182 := GW182; replace HB := am_ (below_step u5_ hb); clear hb hbox hg) | ((with_reducible refine gate_callee (f := 25) rfl ?_); refine goesL_ (some 5) rfl rfl Tryz.func25 u10_ rfl #[.slice A0 l0.length c0] rfl u3_ ?_; (with_reducible refine (impl_FieldsOk.calls k _ _ l0 false _ ?side1 ?side2 A2.out).mono ?_); (case side1 => exact u33_); (case side2 => exact HC0.out); rintro e w19 ⟨rfl, hb⟩; refine ⟨_, rfl, ?_⟩; replace BK182 := am_ (blk_below (g := gb182) (o := .cells #[.slice none 0 0, .slice none 0 0, .slice none 0 0, .int .i64 0] 28 (0, 0)) u45_ hb); replace HB := am_ (below_step u22_ hb); (try clear hb); (try clear hb2); (try clear hk); (try clear hi); have hcz20_0 : w19.cell? ⟨gb182, 0, none⟩ = some (.slice none 0 0) := (blk_cell BK182.out 0).trans rfl; have hcz20_1 : w19.cell? ⟨gb182, 1, none⟩ = some (.slice none 0 0) := (blk_cell BK182.out 1).trans rfl; have hcz20_2 : w19.cell? ⟨gb182, 2, none⟩ = some (.slice none 0 0) := (blk_cell BK182.out 2).trans rfl; have hcz20_3 : w19.cell? ⟨gb182, 3, none⟩ = some (.int .i64 0) := (blk_cell BK182.out 3).trans rfl; have hfz20_0 := blk_frozen BK182.out 0; have hfz20_1 := blk_frozen BK182.out 1; have hfz20_2 := blk_frozen BK182.out 2; have hfz20_3 := blk_frozen BK182.out 3))
  refine bodyPost_ret (results_ct rfl _ _ gb182 28 #[.slice none 0 0, .slice none 0 0, .slice none 0 0, .int .i64 0] (0, 0) _ rfl (by (with_reducible repeat (first | refine blk_drewN ?_ _ | refine blk_drew ?_ | refine blk_alloc ?_ _)); refine blk_put (cs := #[.slice none 0 0, .slice none 0 0, .slice none 0 0, .int .i64 0]) ?_ 3 _ rfl; (with_reducible repeat (first | refine blk_drewN ?_ _ | refine blk_drew ?_ | refine blk_alloc ?_ _)); refine blk_put (cs := #[.slice none 0 0, .slice none 0 0, .slice none 0 0, .int .i64 0]) ?_ 2 _ rfl; (with_reducible repeat (first | refine blk_drewN ?_ _ | refine blk_drew ?_ | refine blk_alloc ?_ _)); refine blk_put (cs := #[.slice none 0 0, .slice none 0 0, .slice none 0 0, .int .i64 0]) ?_ 1 _ rfl; (with_reducible repeat (first | refine blk_drewN ?_ _ | refine blk_drew ?_ | refine blk_alloc ?_ _)); refine blk_put (cs := #[.slice none 0 0, .slice none 0 0, .slice none 0 0, .int .i64 0]) ?_ 0 _ rfl; (with_reducible repeat (first | refine blk_drewN ?_ _ | refine blk_drew ?_ | refine blk_alloc ?_ _)); exact BK182.out) Tryz.underlying28 rfl u10_) rfl ?_; exact ⟨_, _, _, u8_, u42_, u64_, u42_, u22_⟩

/-! ### spec_l1In: function 55 -/
def spec_l1In.f (a0 : Int) (a1 : Int) (a2 : Int) : Option (Bool) := if a0 ≥ a1 then (some (decide (a0 ≤ a2))) else (some false)
set_option maxHeartbeats 8000000 in
set_option maxRecDepth 100000 in
theorem spec_l1In.calls (a0 : Int) (a1 : Int) (a2 : Int) (r : Bool) (w : World) (h : spec_l1In.f a0 a1 a2 = some r) :
  Calls Tryz.prog 55 #[.int .i64 a0, .int .i64 a1, .int .i64 a2] w fun e w' => e = .returned (.bool r) ∧ Drawn0 w w' := by
 have H : (if a0 ≥ a1 then (some (decide (a0 ≤ a2))) else (some false)) = some r := h; clear h; by_cases c4 : a0 ≥ a1
 ·rw [if_pos c4] at H; have c4b0 : decide (a1 ≤ a0) = true := decide_eq_true c4; clear c4; obtain rfl := Option.some.inj H; go_enter Tryz.func55, Tryz.ntmps55
  go_wp2; go_ret
  exact ⟨u15_, u13_⟩
 ·rw [if_neg c4] at H; have c4b0 : decide (a1 ≤ a0) = false := decide_eq_false c4; clear c4; obtain rfl := Option.some.inj H; go_enter Tryz.func55, Tryz.ntmps55
  go_wp2; go_ret
  exact ⟨u15_, u13_⟩

end Go.Proofs.YtelcdhjdlgedeaaGreatDoor.PFnIndexNew
