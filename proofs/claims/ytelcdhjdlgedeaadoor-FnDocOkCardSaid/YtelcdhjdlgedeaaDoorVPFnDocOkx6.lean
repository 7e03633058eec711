/- Contracts of Go functions that the law FnDocOk reaches: each is told as a plain Lean function, with the walk that shows it; no condition beyond what each states. Written by a program of this session round the kit's printer. -/
import Derived.Test.YtelcdhjdlgedeaaDoorVPFnDocOkx0
namespace Go.Proofs.YtelcdhjdlgedeaaDoor.PFnDocOk
open Go.RowKit Go.Proofs.YtelcdhjdlgedeaaDoorW.PrintWords Go.Proofs.YtelcdhjdlgedeaaDoorW.PrintLast Go.Proofs.YtelcdhjdlgedeaaDoorW.PrintMore
attribute [local go_sem] run_str_geq run_str_leq max2_int min2_int max_two min_two max_three min_three max_four min_four   -- for this text's walks alone
set_option linter.unusedVariables false
set_option linter.unusedSimpArgs false

/-! ### impl_within: function 50 -/
def impl_within.f (a0 : Int) (a1 : Int) (a2 : Int) : Option (Bool) := if a0 ≥ a1 then (some (decide (a0 ≤ a2))) else (some false)
set_option maxHeartbeats 8000000 in
set_option maxRecDepth 100000 in
theorem impl_within.calls (a0 : Int) (a1 : Int) (a2 : Int) (r : Bool) (w : World) (h : impl_within.f a0 a1 a2 = some r) :
  Calls Tryd.prog 50 #[.int .i64 a0, .int .i64 a1, .int .i64 a2] w fun e w' => e = .returned (.bool r) ∧ Drawn0 w w' := by
 have H : (if a0 ≥ a1 then (some (decide (a0 ≤ a2))) else (some false)) = some r := h; clear h; by_cases c4 : a0 ≥ a1
 ·rw [if_pos c4] at H; have c4b0 : decide (a1 ≤ a0) = true := decide_eq_true c4; clear c4; obtain rfl := Option.some.inj H; go_enter Tryd.func50, Tryd.ntmps50
  go_wp2; go_ret
  exact ⟨u45_, u41_⟩
 ·rw [if_neg c4] at H; have c4b0 : decide (a1 ≤ a0) = false := decide_eq_false c4; clear c4; obtain rfl := Option.some.inj H; go_enter Tryd.func50, Tryd.ntmps50
  go_wp2; go_ret
  exact ⟨u45_, u41_⟩

/-! ### impl_lower: function 93 -/
def impl_lower.f (a0 : Int) : Option (Bool) := if a0 ≥ 97 then (some (decide (a0 ≤ 122))) else (some false)
set_option maxHeartbeats 8000000 in
set_option maxRecDepth 100000 in
theorem impl_lower.calls (a0 : Int) (r : Bool) (w : World) (h : impl_lower.f a0 = some r) :
  Calls Tryd.prog 93 #[.int .u8 a0] w fun e w' => e = .returned (.bool r) ∧ Drawn0 w w' := by
 have H : (if a0 ≥ 97 then (some (decide (a0 ≤ 122))) else (some false)) = some r := h; clear h; by_cases c2 : a0 ≥ 97
 ·rw [if_pos c2] at H; have c2b0 : decide (97 ≤ a0) = true := decide_eq_true c2; clear c2; obtain rfl := Option.some.inj H; go_enter Tryd.func93, Tryd.ntmps93
  go_wp2; go_ret
  exact ⟨u45_, u41_⟩
 ·rw [if_neg c2] at H; have c2b0 : decide (97 ≤ a0) = false := decide_eq_false c2; clear c2; obtain rfl := Option.some.inj H; go_enter Tryd.func93, Tryd.ntmps93
  go_wp2; go_ret
  exact ⟨u45_, u41_⟩

/-! ### impl_digit: function 94 -/
def impl_digit.f (a0 : Int) : Option (Bool) := if a0 ≥ 48 then (some (decide (a0 ≤ 57))) else (some false)
set_option maxHeartbeats 8000000 in
set_option maxRecDepth 100000 in
theorem impl_digit.calls (a0 : Int) (r : Bool) (w : World) (h : impl_digit.f a0 = some r) :
  Calls Tryd.prog 94 #[.int .u8 a0] w fun e w' => e = .returned (.bool r) ∧ Drawn0 w w' := by
 have H : (if a0 ≥ 48 then (some (decide (a0 ≤ 57))) else (some false)) = some r := h; clear h; by_cases c2 : a0 ≥ 48
 ·rw [if_pos c2] at H; have c2b0 : decide (48 ≤ a0) = true := decide_eq_true c2; clear c2; obtain rfl := Option.some.inj H; go_enter Tryd.func94, Tryd.ntmps94
  go_wp2; go_ret
  exact ⟨u45_, u41_⟩
 ·rw [if_neg c2] at H; have c2b0 : decide (48 ≤ a0) = false := decide_eq_false c2; clear c2; obtain rfl := Option.some.inj H; go_enter Tryd.func94, Tryd.ntmps94
  go_wp2; go_ret
  exact ⟨u45_, u41_⟩

/-! ### impl_NameOk: function 66 -/
def impl_NameOk.l0 : Nat → ByteArray → Int → Int → Option (Bool)
 | 0, _, _, _ => none
 | k + 1, x0, x5, x6 => if x6 < x5 then (if 0 ≤ x6 then (if x6 < (x0.size : Int) then ((impl_lower.f (bt x0 x6)).bind fun t270 => (if t270 = true then (impl_NameOk.l0 k x0 x5 (wrap64 (x6 + 1))) else (if x6 = 0 then (some false) else ((impl_digit.f (bt x0 x6)).bind fun t271 => (if t271 = true then (impl_NameOk.l0 k x0 x5 (wrap64 (x6 + 1))) else (some false)))))) else (none)) else (none)) else ((impl_within.f (x0.size : Int) 1 8).bind fun t269 => (some t269))
def impl_NameOk.f (k : Nat) (a0 : ByteArray) : Option (Bool) := impl_NameOk.l0 k a0 (a0.size : Int) 0
theorem impl_NameOk.mono_l : ∀ k, (∀ y0 y1 y2, LeO (impl_NameOk.l0 k y0 y1 y2) (impl_NameOk.l0 (k + 1) y0 y1 y2))
 | 0 => fun _ _ _ r h => by simp [impl_NameOk.l0] at h
 | k + 1 => by
  have ih0 := impl_NameOk.mono_l k
  ·intro y0 y1 y2; unfold impl_NameOk.l0
   repeat' first
   | (with_reducible exact ih0 _ _ _)
   | (with_reducible exact LeO.refl _)
   | (with_reducible exact LeO.none _)
   | (with_reducible refine LeO.ite ?_ ?_)
   | (with_reducible refine LeO.bind ?_ (fun _ => ?_))
   | exact ih0 _ _ _
   | exact LeO.none _
   | refine LeO.ite ?_ ?_
   | refine LeO.bind ?_ (fun _ => ?_)
theorem impl_NameOk.mono : ∀ a0 k, LeO (impl_NameOk.f k a0) (impl_NameOk.f (k + 1) a0) := by
 intro a0 k; have ih0 := impl_NameOk.mono_l k; unfold impl_NameOk.f
 repeat' first
   | (with_reducible exact ih0 _ _ _)
   | (with_reducible exact LeO.refl _)
   | (with_reducible exact LeO.none _)
   | (with_reducible refine LeO.ite ?_ ?_)
   | (with_reducible refine LeO.bind ?_ (fun _ => ?_))
   | exact ih0 _ _ _
   | exact LeO.none _
   | refine LeO.ite ?_ ?_
   | refine LeO.bind ?_ (fun _ => ?_)
set_option maxHeartbeats 8000000 in
set_option maxRecDepth 100000 in
theorem impl_NameOk.calls (k : Nat) (a0 : ByteArray) (r : Bool) (w : World) (h : impl_NameOk.f k a0 = some r) :
  Calls Tryd.prog 66 #[.string a0] w fun e w' => e = .returned (.bool r) ∧ Drawn0 w w' := by
 have H : (impl_NameOk.l0 k a0 (a0.size : Int) 0) = some r := h; clear h; have H' := am_ H; clear H; go_enter Tryd.func66, Tryd.ntmps66
 go_wp2; go_loopg [6] k (fun kq v6 w' => ∃ (x6_1 : Int), v6 = .int .i64 x6_1 ∧ Aside0 (impl_NameOk.l0 kq a0 (a0.size : Int) x6_1 = some r) ∧ Aside0 (kq ≤ k) ∧ Drawn0 w w')
 case atStart => exact ⟨(0), u35_, H', ⟨Nat.le_refl _⟩, u41_⟩
 case round =>
  clear H'; obtain ⟨x6_1, rfl, HA, HK1, ⟨m1, rfl⟩⟩ := hrel; cases gk with
  | zero => exact absurd HA.out (by simp [impl_NameOk.l0])
  | succ k1 =>
   have H := HA.out; clear HA; simp only [impl_NameOk.l0] at H; by_cases c2 : x6_1 < (a0.size : Int)
   ·rw [if_pos c2] at H; have c2b0 : decide (x6_1 < (a0.size : Int)) = true := decide_eq_true c2; clear c2; by_cases c3 : 0 ≤ x6_1
    ·rw [if_pos c3] at H; have c3b0 : decide (0 ≤ x6_1) = true := decide_eq_true c3; clear c3; by_cases c4 : x6_1 < (a0.size : Int)
     ·rw [if_pos c4] at H; have c4b0 : decide (x6_1 < (a0.size : Int)) = true := decide_eq_true c4; clear c4; replace H := Option.bind_eq_some_iff.mp H; obtain ⟨t270, A60, H⟩ := H; replace H : (if t270 = true then (impl_NameOk.l0 k1 a0 (a0.size : Int) (wrap64 (x6_1 + 1))) else (if x6_1 = 0 then (some false) else ((impl_digit.f (bt a0 x6_1)).bind fun t271 => (if t271 = true then (impl_NameOk.l0 k1 a0 (a0.size : Int) (wrap64 (x6_1 + 1))) else (some false))))) = some r := H; have A6 := am_ A60; clear A60; by_cases c7 : t270 = true
      ·subst c7; rw [if_pos rfl] at H; have H' := am_ H; clear H; have p5 : 0 ≤ (x6_1 : Int) := of_decide_eq_true u5_; have q5 : x6_1 < (a0.size : Int) := of_decide_eq_true u5_; have hx5 := bt_at a0 x6_1; replace p5 := eq_true p5; replace q5 := eq_true q5; go_wp2_with (first | ((with_reducible refine gate_callee (f := 93) rfl ?_); refine goesL_ (some 12) rfl rfl Tryd.func93 u23_ rfl #[.int .u8 (bt a0 x6_1)] rfl u1_ ?_; (with_reducible refine (impl_lower.calls (bt a0 x6_1) true _ A6.out).mono ?_); rintro e w' ⟨rfl, ⟨nd, rfl⟩⟩; refine ⟨_, rfl, ?_⟩))
       go_roundg k1
       case measure => have := HK1.out; omega
       case rel => exact ⟨(wrap64 (x6_1 + 1)), u35_, H', ⟨u131_⟩, u41_⟩
      ·replace c7 := Bool.eq_false_iff.mpr c7; subst c7; rw [if_neg (show ¬ (false = true) by decide)] at H; by_cases c8 : x6_1 = 0
       ·rw [if_pos c8] at H; have c8b0 : (x6_1 == 0) = true := beq_iff_eq.mpr c8; have c8b1 : (x6_1 != 0) = false := bne_eq_false_iff_eq.mpr c8; clear c8; obtain rfl := Option.some.inj H; have p5 : 0 ≤ (x6_1 : Int) := of_decide_eq_true u5_; have q5 : x6_1 < (a0.size : Int) := of_decide_eq_true u5_; have hx5 := bt_at a0 x6_1; replace p5 := eq_true p5; replace q5 := eq_true q5; go_wp2_with (first | ((with_reducible refine gate_callee (f := 93) rfl ?_); refine goesL_ (some 12) rfl rfl Tryd.func93 u23_ rfl #[.int .u8 (bt a0 x6_1)] rfl u1_ ?_; (with_reducible refine (impl_lower.calls (bt a0 x6_1) false _ A6.out).mono ?_); rintro e w' ⟨rfl, ⟨nd, rfl⟩⟩; refine ⟨_, rfl, ?_⟩))
        go_ret
        exact ⟨u45_, u41_⟩
       ·rw [if_neg c8] at H; have c8b0 : (x6_1 == 0) = false := beq_eq_false_iff_ne.mpr c8; have c8b1 : (x6_1 != 0) = true := bne_iff_ne.mpr c8; replace H := Option.bind_eq_some_iff.mp H; obtain ⟨t271, A100, H⟩ := H; replace H : (if t271 = true then (impl_NameOk.l0 k1 a0 (a0.size : Int) (wrap64 (x6_1 + 1))) else (some false)) = some r := H; have A10 := am_ A100; clear A100; by_cases c11 : t271 = true
        ·subst c11; rw [if_pos rfl] at H; have H' := am_ H; clear H; have p5 : 0 ≤ (x6_1 : Int) := of_decide_eq_true u5_; have q5 : x6_1 < (a0.size : Int) := of_decide_eq_true u5_; have hx5 := bt_at a0 x6_1; replace p5 := eq_true p5; replace q5 := eq_true q5; go_wp2_with (first | ((with_reducible refine gate_callee (f := 93) rfl ?_); refine goesL_ (some 12) rfl rfl Tryd.func93 u23_ rfl #[.int .u8 (bt a0 x6_1)] rfl u1_ ?_; (with_reducible refine (impl_lower.calls (bt a0 x6_1) false _ A6.out).mono ?_); rintro e w' ⟨rfl, ⟨nd, rfl⟩⟩; refine ⟨_, rfl, ?_⟩; have p9 : 0 ≤ (x6_1 : Int) := of_decide_eq_true u5_; have q9 : x6_1 < (a0.size : Int) := of_decide_eq_true u5_; have hx9 := bt_at a0 x6_1; replace p9 := eq_true p9; replace q9 := eq_true q9) | (go_at_call 94; (with_reducible refine (impl_digit.calls (bt a0 x6_1) true _ A10.out).mono ?_); rintro e w' ⟨rfl, ⟨nd, rfl⟩⟩))
         go_roundg k1
         case measure => have := HK1.out; omega
         case rel => exact ⟨(wrap64 (x6_1 + 1)), u35_, H', ⟨u131_⟩, u41_⟩
        ·replace c11 := Bool.eq_false_iff.mpr c11; subst c11; rw [if_neg (show ¬ (false = true) by decide)] at H; obtain rfl := Option.some.inj H; have p5 : 0 ≤ (x6_1 : Int) := of_decide_eq_true u5_; have q5 : x6_1 < (a0.size : Int) := of_decide_eq_true u5_; have hx5 := bt_at a0 x6_1; replace p5 := eq_true p5; replace q5 := eq_true q5; go_wp2_with (first | ((with_reducible refine gate_callee (f := 93) rfl ?_); refine goesL_ (some 12) rfl rfl Tryd.func93 u23_ rfl #[.int .u8 (bt a0 x6_1)] rfl u1_ ?_; (with_reducible refine (impl_lower.calls (bt a0 x6_1) false _ A6.out).mono ?_); rintro e w' ⟨rfl, ⟨nd, rfl⟩⟩; refine ⟨_, rfl, ?_⟩; have p9 : 0 ≤ (x6_1 : Int) := of_decide_eq_true u5_; have q9 : x6_1 < (a0.size : Int) := of_decide_eq_true u5_; have hx9 := bt_at a0 x6_1; replace p9 := eq_true p9; replace q9 := eq_true q9) | (go_at_call 94; (with_reducible refine (impl_digit.calls (bt a0 x6_1) false _ A10.out).mono ?_); rintro e w' ⟨rfl, ⟨nd, rfl⟩⟩))
         go_ret
         exact ⟨u45_, u41_⟩
     ·exact u236_
    ·exact u239_
   ·rw [if_neg c2] at H; have c2b0 : decide (x6_1 < (a0.size : Int)) = false := decide_eq_false c2; clear c2; replace H := Option.bind_eq_some_iff.mp H; obtain ⟨t269, A120, H⟩ := H; replace H : (some t269) = some r := H; have A12 := am_ A120; clear A120; obtain rfl := Option.some.inj H; go_wp2_with (first | ((with_reducible refine gate_callee (f := 50) rfl ?_); refine goesL_ (some 28) rfl rfl Tryd.func50 u23_ rfl #[.int .i64 (a0.size : Int), .int .i64 1, .int .i64 8] rfl u1_ ?_; (with_reducible refine (impl_within.calls (a0.size : Int) 1 8 t269 _ A12.out).mono ?_); rintro e w' ⟨rfl, ⟨nd, rfl⟩⟩; refine ⟨_, rfl, ?_⟩))
    go_ret
    exact ⟨u45_, u41_⟩

/-! ### slices_Index_string_string: function 95 -/
def slices_Index_string_string.l0 : Nat → List ByteArray → ByteArray → Int → Int → Option (Int)
 | 0, _, _, _, _ => none
 | k + 1, x0, x1, x7, x8 => if x8 < x7 then (if 0 ≤ x8 then (if x8 < (x0.length : Int) then (if x1.toList = (rdOf ByteArray.empty x0 x8).toList then (some x8) else (slices_Index_string_string.l0 k x0 x1 x7 (wrap64 (x8 + 1)))) else (none)) else (none)) else (some (-1))
def slices_Index_string_string.f (k : Nat) (l0 : List ByteArray) (a1 : ByteArray) : Option (Int) := slices_Index_string_string.l0 k l0 a1 (l0.length : Int) 0
theorem slices_Index_string_string.mono_l : ∀ k, (∀ y0 y1 y2 y3, LeO (slices_Index_string_string.l0 k y0 y1 y2 y3) (slices_Index_string_string.l0 (k + 1) y0 y1 y2 y3))
 | 0 => fun _ _ _ _ r h => by simp [slices_Index_string_string.l0] at h
 | k + 1 => by
  have ih0 := slices_Index_string_string.mono_l k
  ·intro y0 y1 y2 y3; unfold slices_Index_string_string.l0
   repeat' first
   | (with_reducible exact ih0 _ _ _ _)
   | (with_reducible exact LeO.refl _)
   | (with_reducible exact LeO.none _)
   | (with_reducible refine LeO.ite ?_ ?_)
   | (with_reducible refine LeO.bind ?_ (fun _ => ?_))
   | exact ih0 _ _ _ _
   | exact LeO.none _
   | refine LeO.ite ?_ ?_
   | refine LeO.bind ?_ (fun _ => ?_)
theorem slices_Index_string_string.mono : ∀ a0 a1 k, LeO (slices_Index_string_string.f k a0 a1) (slices_Index_string_string.f (k + 1) a0 a1) := by
 intro a0 a1 k; have ih0 := slices_Index_string_string.mono_l k; unfold slices_Index_string_string.f
 repeat' first
   | (with_reducible exact ih0 _ _ _ _)
   | (with_reducible exact LeO.refl _)
   | (with_reducible exact LeO.none _)
   | (with_reducible refine LeO.ite ?_ ?_)
   | (with_reducible refine LeO.bind ?_ (fun _ => ?_))
   | exact ih0 _ _ _ _
   | exact LeO.none _
   | refine LeO.ite ?_ ?_
   | refine LeO.bind ?_ (fun _ => ?_)
set_option maxHeartbeats 8000000 in
set_option maxRecDepth 100000 in
theorem slices_Index_string_string.calls (k : Nat) (A0 : Option Addr) (c0 : Nat) (l0 : List ByteArray) (a1 : ByteArray) (r : Int) (w : World) (hr0 : Kd.C Kd.string w A0 l0.length l0) (hc0 : l0.length ≤ c0) (h : slices_Index_string_string.f k l0 a1 = some r) :
  Calls Tryd.prog 95 #[.slice A0 l0.length c0, .string a1] w fun e w' => e = .returned (.int .i64 r) ∧ Drawn0 w w' := by
 have HR0 := am_ hr0; have HC0 := am_ hc0; clear hr0 hc0; have H : (slices_Index_string_string.l0 k l0 a1 (l0.length : Int) 0) = some r := h; clear h; have H' := am_ H; clear H; go_enter Tryd.func95, Tryd.ntmps95
 go_wp2; go_loopg [8] k (fun kq v8 w' => ∃ (x8_1 : Int), v8 = .int .i64 x8_1 ∧ Aside0 (slices_Index_string_string.l0 kq l0 a1 (l0.length : Int) x8_1 = some r) ∧ Aside0 (kq ≤ k) ∧ Drawn0 w w')
 case atStart => exact ⟨(0), u35_, H', ⟨Nat.le_refl _⟩, u41_⟩
 case round =>
  clear H'; try clear p2
  obtain ⟨x8_1, rfl, HA, HK1, ⟨m1, rfl⟩⟩ := hrel; cases gk with
  | zero => exact absurd HA.out (by simp [slices_Index_string_string.l0])
  | succ k1 =>
   have H := HA.out; clear HA; simp only [slices_Index_string_string.l0] at H; by_cases c3 : x8_1 < (l0.length : Int)
   ·rw [if_pos c3] at H; have c3b0 : decide (x8_1 < (l0.length : Int)) = true := decide_eq_true c3; clear c3; by_cases c4 : 0 ≤ x8_1
    ·rw [if_pos c4] at H; have c4b0 : decide (0 ≤ x8_1) = true := decide_eq_true c4; clear c4; by_cases c5 : x8_1 < (l0.length : Int)
     ·rw [if_pos c5] at H; have c5b0 : decide (x8_1 < (l0.length : Int)) = true := decide_eq_true c5; clear c5; by_cases c6 : a1.toList = (rdOf ByteArray.empty l0 x8_1).toList
      ·rw [if_pos c6] at H; have c6b0 : (a1.toList == (rdOf ByteArray.empty l0 x8_1).toList) = true := beq_iff_eq.mpr c6; have c6b1 : (a1.toList != (rdOf ByteArray.empty l0 x8_1).toList) = false := bne_eq_false_iff_eq.mpr c6; clear c6; obtain rfl := Option.some.inj H; have p272 : 0 ≤ (x8_1 : Int) := of_decide_eq_true u5_; have q272 : x8_1 < (l0.length : Int) := of_decide_eq_true u5_; obtain ⟨ad272, e272, hx272_0⟩ := Kd.at_string HR0.out x8_1 p272 q272; cases e272; replace p272 := eq_true p272; replace q272 := eq_true q272; go_wp2; go_ret
       exact ⟨u45_, u41_⟩
      ·rw [if_neg c6] at H; have c6b0 : (a1.toList == (rdOf ByteArray.empty l0 x8_1).toList) = false := beq_eq_false_iff_ne.mpr c6; have c6b1 : (a1.toList != (rdOf ByteArray.empty l0 x8_1).toList) = true := bne_iff_ne.mpr c6; have H' := am_ H; clear H; have p272 : 0 ≤ (x8_1 : Int) := of_decide_eq_true u5_; have q272 : x8_1 < (l0.length : Int) := of_decide_eq_true u5_; obtain ⟨ad272, e272, hx272_0⟩ := Kd.at_string HR0.out x8_1 p272 q272; cases e272; replace p272 := eq_true p272; replace q272 := eq_true q272; go_wp2; go_roundg k1
       case measure => have := HK1.out; omega
       case rel => exact ⟨(wrap64 (x8_1 + 1)), u35_, H', ⟨u131_⟩, u41_⟩
     ·exact u235_
    ·exact u236_
   ·rw [if_neg c3] at H; have c3b0 : decide (x8_1 < (l0.length : Int)) = false := decide_eq_false c3; clear c3; obtain rfl := Option.some.inj H; go_wp2; go_ret
    exact ⟨u45_, u41_⟩

/-! ### slices_Contains_string_string: function 67 -/
def slices_Contains_string_string.f (k : Nat) (l0 : List ByteArray) (a1 : ByteArray) : Option (Bool) := (slices_Index_string_string.f k l0 a1).bind fun t273 => (some (decide (t273 ≥ 0)))
theorem slices_Contains_string_string.mono : ∀ a0 a1 k, LeO (slices_Contains_string_string.f k a0 a1) (slices_Contains_string_string.f (k + 1) a0 a1) := by
 intro a0 a1 k; unfold slices_Contains_string_string.f
 repeat' first
   | (with_reducible exact slices_Index_string_string.mono _ _ _)
   | (with_reducible exact LeO.refl _)
   | (with_reducible exact LeO.none _)
   | (with_reducible refine LeO.ite ?_ ?_)
   | (with_reducible refine LeO.bind ?_ (fun _ => ?_))
   | exact slices_Index_string_string.mono _ _ _
   | exact LeO.none _
   | refine LeO.ite ?_ ?_
   | refine LeO.bind ?_ (fun _ => ?_)
set_option maxHeartbeats 8000000 in
set_option maxRecDepth 100000 in
theorem slices_Contains_string_string.calls (k : Nat) (A0 : Option Addr) (c0 : Nat) (l0 : List ByteArray) (a1 : ByteArray) (r : Bool) (w : World) (hr0 : Kd.C Kd.string w A0 l0.length l0) (hc0 : l0.length ≤ c0) (h : slices_Contains_string_string.f k l0 a1 = some r) :
  Calls Tryd.prog 67 #[.slice A0 l0.length c0, .string a1] w fun e w' => e = .returned (.bool r) ∧ Drawn0 w w' := by
 have HR0 := am_ hr0; have HC0 := am_ hc0; clear hr0 hc0; have H : ((slices_Index_string_string.f k l0 a1).bind fun t273 => (some (decide (t273 ≥ 0)))) = some r := h; clear h; replace H := Option.bind_eq_some_iff.mp H; obtain ⟨t273, A30, H⟩ := H; replace H : (some (decide (t273 ≥ 0))) = some r := H; have A3 := am_ A30; clear A30; obtain rfl := Option.some.inj H; go_enter Tryd.func67, Tryd.ntmps67
 go_wp2_with (first | ((with_reducible refine gate_callee (f := 95) rfl ?_); refine goesL_ (some 7) rfl rfl Tryd.func95 u23_ rfl #[.slice A0 l0.length c0, .string a1] rfl u1_ ?_; (with_reducible refine (slices_Index_string_string.calls k _ _ l0 a1 t273 _ ?side1 ?side2 A3.out).mono ?_); (case side1 => exact u193_); (case side2 => exact u191_); rintro e w' ⟨rfl, ⟨nd, rfl⟩⟩; refine ⟨_, rfl, ?_⟩))
 go_ret
 exact ⟨u45_, u41_⟩

/-! ### impl_FieldsOk: function 28 -/
mutual
def impl_FieldsOk.l0 : Nat → List (S75) → List ByteArray → List (S75) → Int → Int → Option (Bool)
 | 0, _, _, _, _, _ => none
 | k + 1, x0, x3, x8, x9, x10 => if x10 < x9 then (if 0 ≤ x10 then (if x10 < (x8.length : Int) then (if ((rd_T75 x8 x10).f1) = 1 then ((impl_within.f ((rd_T75 x8 x10).f2) 1 9).bind fun t280 => (impl_FieldsOk.j1 k x0 x3 t280 x8 x9 x10 ((rd_T75 x8 x10).f0) ((rd_T75 x8 x10).f1) ((rd_T75 x8 x10).f2))) else (impl_FieldsOk.j1 k x0 x3 (((rd_T75 x8 x10).f2) == 0) x8 x9 x10 ((rd_T75 x8 x10).f0) ((rd_T75 x8 x10).f1) ((rd_T75 x8 x10).f2))) else (none)) else (none)) else ((impl_within.f (x0.length : Int) 1 4).bind fun t277 => (some t277))
def impl_FieldsOk.j1 : Nat → List (S75) → List ByteArray → Bool → List (S75) → Int → Int → ByteArray → Int → Int → Option (Bool)
 | 0, _, _, _, _, _, _, _, _, _ => none
 | k + 1, x0, x3, x6, x8, x9, x10, x280000, x280001, x280002 => (impl_NameOk.f k x280000).bind fun t281 => (if t281 = true then ((slices_Contains_string_string.f k x3 x280000).bind fun t282 => (if t282 = true then (some false) else ((impl_within.f x280001 1 3).bind fun t283 => (if t283 = true then (if x6 = true then (if x3.length < 8796093022208 then (impl_FieldsOk.l0 k x0 (x3 ++ [x280000]) x8 x9 (wrap64 (x10 + 1))) else (none)) else (some false)) else (some false))))) else (some false))
end
def impl_FieldsOk.f (k : Nat) (l0 : List (S75)) : Option (Bool) := impl_FieldsOk.l0 k l0 (([] : List ByteArray)) l0 (l0.length : Int) 0
theorem impl_FieldsOk.mono_l : ∀ k, (∀ y0 y1 y2 y3 y4, LeO (impl_FieldsOk.l0 k y0 y1 y2 y3 y4) (impl_FieldsOk.l0 (k + 1) y0 y1 y2 y3 y4)) ∧ (∀ y0 y1 y2 y3 y4 y5 y6 y7 y8, LeO (impl_FieldsOk.j1 k y0 y1 y2 y3 y4 y5 y6 y7 y8) (impl_FieldsOk.j1 (k + 1) y0 y1 y2 y3 y4 y5 y6 y7 y8))
 | 0 => ⟨fun _ _ _ _ _ r h => by simp [impl_FieldsOk.l0] at h, fun _ _ _ _ _ _ _ _ _ r h => by simp [impl_FieldsOk.j1] at h⟩
 | k + 1 => by
  obtain ⟨ih0, ih1⟩ := impl_FieldsOk.mono_l k; refine ⟨?_, ?_⟩
  ·intro y0 y1 y2 y3 y4; unfold impl_FieldsOk.l0
   repeat' first
   | (with_reducible exact ih0 _ _ _ _ _)
   | (with_reducible exact ih1 _ _ _ _ _ _ _ _ _)
   | (with_reducible exact impl_NameOk.mono _ _)
   | (with_reducible exact slices_Contains_string_string.mono _ _ _)
   | (with_reducible exact LeO.refl _)
   | (with_reducible exact LeO.none _)
   | (with_reducible refine LeO.ite ?_ ?_)
   | (with_reducible refine LeO.bind ?_ (fun _ => ?_))
   | exact ih0 _ _ _ _ _
   | exact ih1 _ _ _ _ _ _ _ _ _
   | exact impl_NameOk.mono _ _
   | exact slices_Contains_string_string.mono _ _ _
   | exact LeO.none _
   | refine LeO.ite ?_ ?_
   | refine LeO.bind ?_ (fun _ => ?_)
  ·intro y0 y1 y2 y3 y4 y5 y6 y7 y8; unfold impl_FieldsOk.j1
   repeat' first
   | (with_reducible exact ih0 _ _ _ _ _)
   | (with_reducible exact ih1 _ _ _ _ _ _ _ _ _)
   | (with_reducible exact impl_NameOk.mono _ _)
   | (with_reducible exact slices_Contains_string_string.mono _ _ _)
   | (with_reducible exact LeO.refl _)
   | (with_reducible exact LeO.none _)
   | (with_reducible refine LeO.ite ?_ ?_)
   | (with_reducible refine LeO.bind ?_ (fun _ => ?_))
   | exact ih0 _ _ _ _ _
   | exact ih1 _ _ _ _ _ _ _ _ _
   | exact impl_NameOk.mono _ _
   | exact slices_Contains_string_string.mono _ _ _
   | exact LeO.none _
   | refine LeO.ite ?_ ?_
   | refine LeO.bind ?_ (fun _ => ?_)
theorem impl_FieldsOk.mono : ∀ a0 k, LeO (impl_FieldsOk.f k a0) (impl_FieldsOk.f (k + 1) a0) := by
 intro a0 k; obtain ⟨ih0, ih1⟩ := impl_FieldsOk.mono_l k; unfold impl_FieldsOk.f
 repeat' first
   | (with_reducible exact ih0 _ _ _ _ _)
   | (with_reducible exact ih1 _ _ _ _ _ _ _ _ _)
   | (with_reducible exact impl_NameOk.mono _ _)
   | (with_reducible exact slices_Contains_string_string.mono _ _ _)
   | (with_reducible exact LeO.refl _)
   | (with_reducible exact LeO.none _)
   | (with_reducible refine LeO.ite ?_ ?_)
   | (with_reducible refine LeO.bind ?_ (fun _ => ?_))
   | exact ih0 _ _ _ _ _
   | exact ih1 _ _ _ _ _ _ _ _ _
   | exact impl_NameOk.mono _ _
   | exact slices_Contains_string_string.mono _ _ _
   | exact LeO.none _
   | refine LeO.ite ?_ ?_
   | refine LeO.bind ?_ (fun _ => ?_)
set_option maxHeartbeats 8000000 in
set_option maxRecDepth 100000 in
theorem impl_FieldsOk.calls (k : Nat) (A0 : Option Addr) (c0 : Nat) (l0 : List (S75)) (r : Bool) (w : World) (hr0 : Kd.C k75 w A0 l0.length l0) (hc0 : l0.length ≤ c0) (h : impl_FieldsOk.f k l0 = some r) :
  Calls Tryd.prog 28 #[.slice A0 l0.length c0] w fun e w' => e = .returned (.bool r) ∧ Below w.heap.size w w' := by
 have hu75 := Tryd.underlying75; have HR0 := am_ hr0; have HC0 := am_ hc0; clear hr0 hc0; have HB := am_ (Below.refl w.heap.size w); have H : (impl_FieldsOk.l0 k l0 (([] : List ByteArray)) l0 (l0.length : Int) 0) = some r := h; clear h; obtain ⟨y274, hy274⟩ : ∃ y_ : List ByteArray, y_ = (([] : List ByteArray)) := ⟨_, rfl⟩; replace H : (impl_FieldsOk.l0 k l0 y274 l0 (l0.length : Int) 0) = some r := by first | (rw [hy274]; with_reducible exact H) | (have H2_ := (Option.bind_some _ _).symm.trans H; rw [hy274]; with_reducible exact H2_) | (have H2_ := (Option.bind_some _ _).symm.trans H; with_reducible exact H2_) | with_reducible exact H | (rw [hy274]; exact H) | exact H
 have Ny274 := am_ hy274; clear hy274; have H' := am_ H; clear H; go_enter Tryd.func28, Tryd.ntmps28
 go_wp2_with (first | ((with_reducible refine gate_dst (N := 7) rfl ?_); refine Kd.R_lit Kd.string _ 9 ?hg (N := 7) ?hd (xs := ([] : List ByteArray)) (inner := []) (ok := fun _ => True) (okp := fun _ => True) ?hr ?hp (fun _ hk => hk) trivial (Below.refl _ _) (Nat.le_refl _) u99_ ?_; (case hd => rfl); (case hg => rfl); (case hr => exact u33_); (case hp => exact u162_); intro v275 w2 ho3 hb hg_ hnew_; clear hg_ hnew_; (first | rw [← Ny274.out] at ho3 | (simp only [Int.reduceToNat] at ho3; rw [← Ny274.out] at ho3)); have HO276 := am_ (Kd.R_lower ho3 (below_size u2_)); replace HB := am_ (below_step u2_ hb); clear hb ho3))
 go_loopg [3, 10] k (fun kq v3 v10 w' => ∃ (x3_1 : List ByteArray) (x10_1 : Int), v10 = .int .i64 x10_1 ∧ Aside0 (impl_FieldsOk.l0 kq l0 x3_1 l0 (l0.length : Int) x10_1 = some r) ∧ Aside0 (kq ≤ k) ∧ Aside0 (Kd.R Kd.string 9 w' w.heap.size (fun _ => True) v3 x3_1) ∧ Aside0 (Below w.heap.size w w'))
 case atStart => exact ⟨(y274), (0), u35_, H', ⟨Nat.le_refl _⟩, ⟨by (with_reducible repeat (first | apply Kd.R_alloc | apply Kd.R_drewN | apply Kd.R_drew)); exact HO276.out⟩, ⟨u2_⟩⟩
 case round =>
  clear H'; try clear c2
  try clear p2
  obtain ⟨x3_1, x10_1, rfl, HA, HK1, HO_3, HB⟩ := hrel; cases gk with
  | zero => exact absurd HA.out (by simp [impl_FieldsOk.l0])
  | succ k1 =>
   have H := HA.out; clear HA; simp only [impl_FieldsOk.l0] at H; by_cases c4 : x10_1 < (l0.length : Int)
   ·rw [if_pos c4] at H; have c4b0 : decide (x10_1 < (l0.length : Int)) = true := decide_eq_true c4; clear c4; by_cases c5 : 0 ≤ x10_1
    ·rw [if_pos c5] at H; have c5b0 : decide (0 ≤ x10_1) = true := decide_eq_true c5; clear c5; by_cases c6 : x10_1 < (l0.length : Int)
     ·rw [if_pos c6] at H; have c6b0 : decide (x10_1 < (l0.length : Int)) = true := decide_eq_true c6; clear c6; have HC7 := am_ H; clear H; have p278 : 0 ≤ (x10_1 : Int) := of_decide_eq_true u5_; have q278 : x10_1 < (l0.length : Int) := of_decide_eq_true u5_; obtain ⟨ad278, e278, hx278_0, hx278_1, hx278_2⟩ := at_T75 HR0.out x10_1 p278 q278; cases e278; replace hx278_0 := (HB.out.cell (World.block_lt_of_cell? w _ hx278_0)).trans hx278_0; replace hx278_1 := (HB.out.cell (World.block_lt_of_cell? w _ hx278_1)).trans hx278_1; replace hx278_2 := (HB.out.cell (World.block_lt_of_cell? w _ hx278_2)).trans hx278_2; replace p278 := eq_true p278; replace q278 := eq_true q278; go_upto_if 19 with (first | ((with_reducible refine gate_dst (N := 5) rfl ?_); refine box_event ?hg (N := 5) ?hd (cs := #[.string (⟨#[]⟩ : ByteArray), .int .i64 0, .int .i64 0]) (t := 75) ?hr ?_; (case hd => rfl); (case hg => rfl); (case hr => exact u33_); intro gb279 hg w8 hbox hb; replace HO_3 := am_ (Kd.R_below u21_ hb); have BK279 := am_ (hbox); have GW279 := am_ ((by rw [hg]; exact (below_size u2_) : w.heap.size ≤ gb279)); have GE279 := GW279; replace HB := am_ (below_step u2_ hb); clear hb hbox hg; have hcz9_0 : w8.cell? ⟨gb279, 0, none⟩ = some (.string (⟨#[]⟩ : ByteArray)) := (blk_cell BK279.out 0).trans rfl; have hcz9_1 : w8.cell? ⟨gb279, 1, none⟩ = some (.int .i64 0) := (blk_cell BK279.out 1).trans rfl; have hcz9_2 : w8.cell? ⟨gb279, 2, none⟩ = some (.int .i64 0) := (blk_cell BK279.out 2).trans rfl; have hfz9_0 := blk_frozen BK279.out 0; have hfz9_1 := blk_frozen BK279.out 1; have hfz9_2 := blk_frozen BK279.out 2))
      (try simp only [Act.put, List.setIfInBounds_toArray, List.set_cons_zero, List.set_cons_succ])
      go_cut [6] (fun v6 wc => ∃ (kq : Nat) (x6_6 : Bool), v6 = .bool x6_6 ∧ Aside0 (impl_FieldsOk.j1 kq l0 x3_1 x6_6 l0 (l0.length : Int) x10_1 ((rd_T75 l0 x10_1).f0) ((rd_T75 l0 x10_1).f1) ((rd_T75 l0 x10_1).f2) = some r) ∧ Aside0 (kq ≤ k1) ∧ Aside0 (Kd.R Kd.string 9 wc w.heap.size (fun _ => True) u3 x3_1) ∧ Aside0 (wc.heap[gb279]? = some (.cells #[.string ((rd_T75 l0 x10_1).f0), .int .i64 ((rd_T75 l0 x10_1).f1), .int .i64 ((rd_T75 l0 x10_1).f2)] 75 (0, 0))) ∧ Aside0 (Below w.heap.size w wc))
      case first =>
       have H := HC7.out; clear HC7; by_cases c10 : ((rd_T75 l0 x10_1).f1) = 1
       ·rw [if_pos c10] at H; have c10b0 : (((rd_T75 l0 x10_1).f1) == 1) = true := beq_iff_eq.mpr c10; have c10b1 : (((rd_T75 l0 x10_1).f1) != 1) = false := bne_eq_false_iff_eq.mpr c10; clear c10; (first | rw [c10b0] | (simp only [i64_w, i32_w]; rw [c10b0]) | skip)
        replace H := Option.bind_eq_some_iff.mp H; obtain ⟨t280, A110, H⟩ := H; replace H : (impl_FieldsOk.j1 k1 l0 x3_1 t280 l0 (l0.length : Int) x10_1 ((rd_T75 l0 x10_1).f0) ((rd_T75 l0 x10_1).f1) ((rd_T75 l0 x10_1).f2)) = some r := H; have A11 := am_ A110; clear A110; have H' := am_ H; clear H; have hcz12_0 : w8.cell? ⟨gb279, 0, none⟩ = some (.string (⟨#[]⟩ : ByteArray)) := (blk_cell BK279.out 0).trans rfl; have hcz12_1 : w8.cell? ⟨gb279, 1, none⟩ = some (.int .i64 0) := (blk_cell BK279.out 1).trans rfl; have hcz12_2 : w8.cell? ⟨gb279, 2, none⟩ = some (.int .i64 0) := (blk_cell BK279.out 2).trans rfl; have hfz12_0 := blk_frozen BK279.out 0; have hfz12_1 := blk_frozen BK279.out 1; have hfz12_2 := blk_frozen BK279.out 2; go_wp2_with (first | ((with_reducible refine gate_callee (f := 50) rfl ?_); refine goesL_ (some 22) rfl rfl Tryd.func50 u23_ rfl #[.int .i64 ((rd_T75 l0 x10_1).f2), .int .i64 1, .int .i64 9] rfl u1_ ?_; (with_reducible refine (impl_within.calls ((rd_T75 l0 x10_1).f2) 1 9 t280 _ A11.out).mono ?_); rintro e w' ⟨rfl, ⟨nd, rfl⟩⟩; refine ⟨_, rfl, ?_⟩))
        go_meet
        case rel => exact ⟨_, (t280), u35_, H', ⟨u146_⟩, ⟨u231_⟩, ⟨u102_⟩, ⟨u74_⟩⟩
       ·rw [if_neg c10] at H; have c10b0 : (((rd_T75 l0 x10_1).f1) == 1) = false := beq_eq_false_iff_ne.mpr c10; have c10b1 : (((rd_T75 l0 x10_1).f1) != 1) = true := bne_iff_ne.mpr c10; (first | rw [c10b0] | (simp only [i64_w, i32_w]; rw [c10b0]) | skip)
        have H' := am_ H; clear H; go_wp2; go_meet
        case rel => exact ⟨_, ((((rd_T75 l0 x10_1).f2) == 0)), u35_, H', ⟨u146_⟩, ⟨u231_⟩, ⟨u102_⟩, ⟨u74_⟩⟩
      case rest =>
       clear HC7; try clear c1
       try clear c2
       try clear p2
       try clear q2
       try clear hx2
       try clear c4
       try clear c4b0
       try clear c5
       try clear c5b0
       try clear c6
       try clear c6b0
       try clear c10
       try clear c10b0
       try clear c10b1
       try clear hcz12_0
       try clear hcz12_1
       try clear hcz12_2
       try clear hcz9_0
       try clear hcz9_1
       try clear hcz9_2
       try clear hfz12_0
       try clear hfz12_1
       try clear hfz12_2
       try clear hfz9_0
       try clear hfz9_1
       try clear hfz9_2
       try clear hx278_0
       try clear hx278_1
       try clear hx278_2
       try clear p2
       try clear p278
       try clear q278
       obtain ⟨kq, x6_6, rfl, HA, HJ6, HO_3, BK279, HB⟩ := hcut; cases kq with
       | zero => exact absurd HA.out (by simp [impl_FieldsOk.j1])
       | succ kj6 =>
        have H := HA.out; clear HA; simp only [impl_FieldsOk.j1] at H; replace H := Option.bind_eq_some_iff.mp H; obtain ⟨t281, A130, H⟩ := H; replace H : (if t281 = true then ((slices_Contains_string_string.f kj6 x3_1 ((rd_T75 l0 x10_1).f0)).bind fun t282 => (if t282 = true then (some false) else ((impl_within.f ((rd_T75 l0 x10_1).f1) 1 3).bind fun t283 => (if t283 = true then (if x6_6 = true then (if x3_1.length < 8796093022208 then (impl_FieldsOk.l0 kj6 l0 (x3_1 ++ [((rd_T75 l0 x10_1).f0)]) l0 (l0.length : Int) (wrap64 (x10_1 + 1))) else (none)) else (some false)) else (some false))))) else (some false)) = some r := H; have A13 := am_ A130; clear A130; by_cases c14 : t281 = true
        ·subst c14; rw [if_pos rfl] at H; replace H := Option.bind_eq_some_iff.mp H; obtain ⟨t282, A150, H⟩ := H; replace H : (if t282 = true then (some false) else ((impl_within.f ((rd_T75 l0 x10_1).f1) 1 3).bind fun t283 => (if t283 = true then (if x6_6 = true then (if x3_1.length < 8796093022208 then (impl_FieldsOk.l0 kj6 l0 (x3_1 ++ [((rd_T75 l0 x10_1).f0)]) l0 (l0.length : Int) (wrap64 (x10_1 + 1))) else (none)) else (some false)) else (some false)))) = some r := H; have A15 := am_ A150; clear A150; by_cases c16 : t282 = true
         ·subst c16; rw [if_pos rfl] at H; obtain rfl := Option.some.inj H; have hcz17_0 : wc.cell? ⟨gb279, 0, none⟩ = some (.string ((rd_T75 l0 x10_1).f0)) := (blk_cell BK279.out 0).trans rfl; have hcz17_1 : wc.cell? ⟨gb279, 1, none⟩ = some (.int .i64 ((rd_T75 l0 x10_1).f1)) := (blk_cell BK279.out 1).trans rfl; have hcz17_2 : wc.cell? ⟨gb279, 2, none⟩ = some (.int .i64 ((rd_T75 l0 x10_1).f2)) := (blk_cell BK279.out 2).trans rfl; have hfz17_0 := blk_frozen BK279.out 0; have hfz17_1 := blk_frozen BK279.out 1; have hfz17_2 := blk_frozen BK279.out 2; go_wp2_with (first | ((with_reducible refine gate_callee (f := 66) rfl ?_); refine goesL_ (some 25) rfl rfl Tryd.func66 u23_ rfl #[.string ((rd_T75 l0 x10_1).f0)] rfl u1_ ?_; (with_reducible refine (impl_NameOk.calls kj6 ((rd_T75 l0 x10_1).f0) true _ A13.out).mono ?_); rintro e w' ⟨rfl, ⟨nd, rfl⟩⟩; refine ⟨_, rfl, ?_⟩; obtain ⟨Ao18, co18, eo18⟩ := Kd.R_slice HO_3.out; subst eo18) | (go_at_call 67; (with_reducible refine (slices_Contains_string_string.calls kj6 _ _ x3_1 ((rd_T75 l0 x10_1).f0) true _ ?side1 ?side2 A15.out).mono ?_); (case side1 => exact u66_); (case side2 => exact u135_); rintro e w' ⟨rfl, ⟨nd, rfl⟩⟩))
          go_ret
          exact ⟨u6_, u74_⟩
         ·replace c16 := Bool.eq_false_iff.mpr c16; subst c16; rw [if_neg (show ¬ (false = true) by decide)] at H; replace H := Option.bind_eq_some_iff.mp H; obtain ⟨t283, A190, H⟩ := H; replace H : (if t283 = true then (if x6_6 = true then (if x3_1.length < 8796093022208 then (impl_FieldsOk.l0 kj6 l0 (x3_1 ++ [((rd_T75 l0 x10_1).f0)]) l0 (l0.length : Int) (wrap64 (x10_1 + 1))) else (none)) else (some false)) else (some false)) = some r := H; have A19 := am_ A190; clear A190; by_cases c20 : t283 = true
          ·subst c20; rw [if_pos rfl] at H; by_cases c21 : x6_6 = true
           ·subst c21; rw [if_pos rfl] at H; by_cases c22 : x3_1.length < 8796093022208
            ·rw [if_pos c22] at H; have LMc22 := am_ c22; clear c22; obtain ⟨y284, hy284⟩ : ∃ y_ : List ByteArray, y_ = (x3_1 ++ [((rd_T75 l0 x10_1).f0)]) := ⟨_, rfl⟩; replace H : (impl_FieldsOk.l0 kj6 l0 y284 l0 (l0.length : Int) (wrap64 (x10_1 + 1))) = some r := by first | (rw [hy284]; with_reducible exact H) | (have H2_ := (Option.bind_some _ _).symm.trans H; rw [hy284]; with_reducible exact H2_) | (have H2_ := (Option.bind_some _ _).symm.trans H; with_reducible exact H2_) | with_reducible exact H | (rw [hy284]; exact H) | exact H
             have Ny284 := am_ hy284; clear hy284; have H' := am_ H; clear H; have hcz23_0 : wc.cell? ⟨gb279, 0, none⟩ = some (.string ((rd_T75 l0 x10_1).f0)) := (blk_cell BK279.out 0).trans rfl; have hcz23_1 : wc.cell? ⟨gb279, 1, none⟩ = some (.int .i64 ((rd_T75 l0 x10_1).f1)) := (blk_cell BK279.out 1).trans rfl; have hcz23_2 : wc.cell? ⟨gb279, 2, none⟩ = some (.int .i64 ((rd_T75 l0 x10_1).f2)) := (blk_cell BK279.out 2).trans rfl; have hfz23_0 := blk_frozen BK279.out 0; have hfz23_1 := blk_frozen BK279.out 1; have hfz23_2 := blk_frozen BK279.out 2; go_wp2_with (first | ((with_reducible refine gate_callee (f := 66) rfl ?_); refine goesL_ (some 25) rfl rfl Tryd.func66 u23_ rfl #[.string ((rd_T75 l0 x10_1).f0)] rfl u1_ ?_; (with_reducible refine (impl_NameOk.calls kj6 ((rd_T75 l0 x10_1).f0) true _ A13.out).mono ?_); rintro e w' ⟨rfl, ⟨nd, rfl⟩⟩; refine ⟨_, rfl, ?_⟩; obtain ⟨Ao24, co24, eo24⟩ := Kd.R_slice HO_3.out; subst eo24) | (go_at_call 67; (with_reducible refine (slices_Contains_string_string.calls kj6 _ _ x3_1 ((rd_T75 l0 x10_1).f0) false _ ?side1 ?side2 A15.out).mono ?_); (case side1 => exact u66_); (case side2 => exact u135_); rintro e w' ⟨rfl, ⟨nd, rfl⟩⟩) | (go_at_call 50; (with_reducible refine (impl_within.calls ((rd_T75 l0 x10_1).f1) 1 3 true _ A19.out).mono ?_); rintro e w' ⟨rfl, ⟨nd, rfl⟩⟩) | ((with_reducible refine gate_builtin (b := .append) (xs := #[.tmp 43, .tmp 46]) rfl ?_); at_builtin; refine Kd.R_append Kd.string (w0 := w) w.heap.size rfl (.tmp 43) (.tmp 46) 61 9 (.string ⟨#[]⟩) 16 rfl Tryd.underlying61 info9 rfl u52_ u145_ (.slice Ao24 x3_1.length co24) x3_1 ((rd_T75 l0 x10_1).f0) [.string ((rd_T75 l0 x10_1).f0)] (fun _ => True) (fun _ => False) rfl rfl ?aP (fun _ hk => hk.elim) ?aF ?aO ?aB ?aS ?aL ?_; (case aP => exact rfl); (case aB => exact u74_); (case aF => exact (fun _ _ => trivial)); (case aO => exact u21_); (case aS => exact (below_size u74_)); (case aL => have := LMc22.out; omega); intro v285 w25 ho hb hg hat; rw [← Ny284.out] at ho; replace BK279 := am_ (blk_grown (g := gb279) (o := .cells #[.string ((rd_T75 l0 x10_1).f0), .int .i64 ((rd_T75 l0 x10_1).f1), .int .i64 ((rd_T75 l0 x10_1).f2)] 75 (0, 0)) (by (with_reducible repeat (first | refine blk_drewN ?_ _ | refine blk_drew ?_ | refine blk_alloc ?_ _)); exact BK279.out) hg (Kd.R_ne HO_3.out BK279.out u52_)); replace HB := am_ (hb); have HO286 := am_ (ho); clear HO_3 ho hb hg hat))
             go_roundg kj6
             case measure => have := HK1.out; have := HJ6.out; omega
             case rel => exact ⟨(y284), (wrap64 (x10_1 + 1)), u35_, H', ⟨by have := HK1.out; have := HJ6.out; omega⟩, ⟨by (with_reducible repeat (first | apply Kd.R_alloc | apply Kd.R_drewN | apply Kd.R_drew)); exact HO286.out⟩, ⟨u74_⟩⟩
            ·rw [if_neg c22] at H; exact absurd H u99_
           ·replace c21 := Bool.eq_false_iff.mpr c21; subst c21; rw [if_neg (show ¬ (false = true) by decide)] at H; obtain rfl := Option.some.inj H; have hcz26_0 : wc.cell? ⟨gb279, 0, none⟩ = some (.string ((rd_T75 l0 x10_1).f0)) := (blk_cell BK279.out 0).trans rfl; have hcz26_1 : wc.cell? ⟨gb279, 1, none⟩ = some (.int .i64 ((rd_T75 l0 x10_1).f1)) := (blk_cell BK279.out 1).trans rfl; have hcz26_2 : wc.cell? ⟨gb279, 2, none⟩ = some (.int .i64 ((rd_T75 l0 x10_1).f2)) := (blk_cell BK279.out 2).trans rfl; have hfz26_0 := blk_frozen BK279.out 0; have hfz26_1 := blk_frozen BK279.out 1; have hfz26_2 := blk_frozen BK279.out 2; go_wp2_with (first | ((with_reducible refine gate_callee (f := 66) rfl ?_); refine goesL_ (some 25) rfl rfl Tryd.func66 u23_ rfl #[.string ((rd_T75 l0 x10_1).f0)] rfl u1_ ?_; (with_reducible refine (impl_NameOk.calls kj6 ((rd_T75 l0 x10_1).f0) true _ A13.out).mono ?_); rintro e w' ⟨rfl, ⟨nd, rfl⟩⟩; refine ⟨_, rfl, ?_⟩; obtain ⟨Ao27, co27, eo27⟩ := Kd.R_slice HO_3.out; subst eo27) | (go_at_call 67; (with_reducible refine (slices_Contains_string_string.calls kj6 _ _ x3_1 ((rd_T75 l0 x10_1).f0) false _ ?side1 ?side2 A15.out).mono ?_); (case side1 => exact u66_); (case side2 => exact u135_); rintro e w' ⟨rfl, ⟨nd, rfl⟩⟩) | (go_at_call 50; (with_reducible refine (impl_within.calls ((rd_T75 l0 x10_1).f1) 1 3 true _ A19.out).mono ?_); rintro e w' ⟨rfl, ⟨nd, rfl⟩⟩))
            go_ret
            exact ⟨u6_, u74_⟩
          ·replace c20 := Bool.eq_false_iff.mpr c20; subst c20; rw [if_neg (show ¬ (false = true) by decide)] at H; obtain rfl := Option.some.inj H; have hcz28_0 : wc.cell? ⟨gb279, 0, none⟩ = some (.string ((rd_T75 l0 x10_1).f0)) := (blk_cell BK279.out 0).trans rfl; have hcz28_1 : wc.cell? ⟨gb279, 1, none⟩ = some (.int .i64 ((rd_T75 l0 x10_1).f1)) := (blk_cell BK279.out 1).trans rfl; have hcz28_2 : wc.cell? ⟨gb279, 2, none⟩ = some (.int .i64 ((rd_T75 l0 x10_1).f2)) := (blk_cell BK279.out 2).trans rfl; have hfz28_0 := blk_frozen BK279.out 0; have hfz28_1 := blk_frozen BK279.out 1; have hfz28_2 := blk_frozen BK279.out 2; go_wp2_with (first | ((with_reducible refine gate_callee (f := 66) rfl ?_); refine goesL_ (some 25) rfl rfl Tryd.func66 u23_ rfl #[.string ((rd_T75 l0 x10_1).f0)] rfl u1_ ?_; (with_reducible refine (impl_NameOk.calls kj6 ((rd_T75 l0 x10_1).f0) true _ A13.out).mono ?_); rintro e w' ⟨rfl, ⟨nd, rfl⟩⟩; refine ⟨_, rfl, ?_⟩; obtain ⟨Ao29, co29, eo29⟩ := Kd.R_slice HO_3.out; subst eo29) | (go_at_call 67; (with_reducible refine (slices_Contains_string_string.calls kj6 _ _ x3_1 ((rd_T75 l0 x10_1).f0) false _ ?side1 ?side2 A15.out).mono ?_); (case side1 => exact u66_); (case side2 => exact u135_); rintro e w' ⟨rfl, ⟨nd, rfl⟩⟩) | (go_at_call 50; (with_reducible refine (impl_within.calls ((rd_T75 l0 x10_1).f1) 1 3 false _ A19.out).mono ?_); rintro e w' ⟨rfl, ⟨nd, rfl⟩⟩))
           go_ret
           exact ⟨u6_, u74_⟩
        ·replace c14 := Bool.eq_false_iff.mpr c14; subst c14; rw [if_neg (show ¬ (false = true) by decide)] at H; obtain rfl := Option.some.inj H; have hcz30_0 : wc.cell? ⟨gb279, 0, none⟩ = some (.string ((rd_T75 l0 x10_1).f0)) := (blk_cell BK279.out 0).trans rfl; have hcz30_1 : wc.cell? ⟨gb279, 1, none⟩ = some (.int .i64 ((rd_T75 l0 x10_1).f1)) := (blk_cell BK279.out 1).trans rfl; have hcz30_2 : wc.cell? ⟨gb279, 2, none⟩ = some (.int .i64 ((rd_T75 l0 x10_1).f2)) := (blk_cell BK279.out 2).trans rfl; have hfz30_0 := blk_frozen BK279.out 0; have hfz30_1 := blk_frozen BK279.out 1; have hfz30_2 := blk_frozen BK279.out 2; go_wp2_with (first | ((with_reducible refine gate_callee (f := 66) rfl ?_); refine goesL_ (some 25) rfl rfl Tryd.func66 u23_ rfl #[.string ((rd_T75 l0 x10_1).f0)] rfl u1_ ?_; (with_reducible refine (impl_NameOk.calls kj6 ((rd_T75 l0 x10_1).f0) false _ A13.out).mono ?_); rintro e w' ⟨rfl, ⟨nd, rfl⟩⟩; refine ⟨_, rfl, ?_⟩))
         go_ret
         exact ⟨u6_, u74_⟩
     ·exact u244_
    ·exact u235_
   ·rw [if_neg c4] at H; have c4b0 : decide (x10_1 < (l0.length : Int)) = false := decide_eq_false c4; clear c4; replace H := Option.bind_eq_some_iff.mp H; obtain ⟨t277, A310, H⟩ := H; replace H : (some t277) = some r := H; have A31 := am_ A310; clear A310; obtain rfl := Option.some.inj H; go_wp2_with (first | ((with_reducible refine gate_callee (f := 50) rfl ?_); refine goesL_ (some 51) rfl rfl Tryd.func50 u23_ rfl #[.int .i64 (l0.length : Int), .int .i64 1, .int .i64 4] rfl u1_ ?_; (with_reducible refine (impl_within.calls (l0.length : Int) 1 4 t277 _ A31.out).mono ?_); rintro e w' ⟨rfl, ⟨nd, rfl⟩⟩; refine ⟨_, rfl, ?_⟩))
    go_ret
    exact ⟨u6_, u2_⟩

/-! ### strconv_Itoa: function 48 -/
def strconv_Itoa.f (a0 : Int) : Option ByteArray := if -9223372036854775808 ≤ a0 ∧ a0 ≤ 9223372036854775807 then some ⟨(Lib.itoa a0).toArray⟩ else none
theorem strconv_Itoa.below (w : World) (k : Nat) (os : Array Obj) : Below w.heap.size w (Go.Sort.grow (w.drewN k) os) :=
 ⟨rfl, rfl, rfl, by rw [Go.Sort.size_grow]; exact Nat.le_add_right _ _, fun i hi => Go.Sort.heap_grow_old (w.drewN k) os hi⟩
theorem strconv_Itoa.calls (a0 : Int) (r : ByteArray) (w : World) (hG : StopsIn w) (h : strconv_Itoa.f a0 = some r) :
  Calls Tryd.prog 48 #[.int .i64 a0] w fun e w' => e = .returned (.string r) ∧ Below w.heap.size w w' := by
 unfold strconv_Itoa.f at h
 by_cases hs : -9223372036854775808 ≤ a0 ∧ a0 ≤ 9223372036854775807
 case neg => rw [if_neg hs] at h; exact absurd h u99_
 rw [if_pos hs] at h; have h := Option.some.inj h; subst h; refine (Go.Proofs.Tryd.strconv_Itoa a0 hs.1 hs.2 w hG.tab).mono ?_; rintro e w' ⟨rfl, k, os, rfl⟩; exact ⟨rfl, strconv_Itoa.below w k os⟩

/-! ### impl_number: function 45 -/
/-- The number that a text is. -/
def impl_number.v (s : ByteArray) : Int × Bool := match Lib.atoiAll s.data.toList with
 | .ok n => if -999999999 ≤ n ∧ n ≤ 999999999 ∧ Lib.itoa n = s.data.toList then (n, true) else (0, false)
 | _ => (0, false)
def impl_number.f (a0 : ByteArray) : Option (Int × Bool) := if a0.size ≤ 140737488355328 then some (impl_number.v a0) else none
theorem impl_number.atoi_ok (s : ByteArray) (hs : s.size ≤ 140737488355328) (n : Int) (h : Lib.atoiAll s.data.toList = .ok n) (w : World) :
  Calls Tryd.prog 55 #[.string s] w fun e w' => e = .returned (.tuple #[.int .i64 n, .nilIface]) ∧ Below w.heap.size w w' := by
 refine (Go.Proofs.Tryd.strconv_Atoi_ok s u145_ n h w).mono ?_; rintro e w' ⟨rfl, h1⟩; rcases h1 with rfl | ⟨t, rfl⟩
 ·exact ⟨rfl, Below.refl _ _⟩
 ·exact ⟨rfl, bytes_below (Below.refl _ _) (Nat.le_refl _) _ _⟩
theorem impl_number.atoi_no (s : ByteArray) (hs : s.size ≤ 140737488355328) (h : ∀ n, Lib.atoiAll s.data.toList ≠ .ok n) (w : World) (hG : StopsIn w) :
  Calls Tryd.prog 55 #[.string s] w fun e w' => ∃ n t p, e = .returned (.tuple #[.int .i64 n, .iface t p]) ∧ Below w.heap.size w w' := by
 obtain ⟨⟨u1, v1, h1⟩, ⟨u2, v2, h2⟩⟩ := hG.errs; rcases hA : Lib.atoiAll s.data.toList with n | _ | _
 ·exact absurd hA (h n)
 ·refine (Go.Proofs.Tryd.strconv_Atoi_syntax_var s u145_ hA u1 v1 w h1).mono ?_; rintro e w' ⟨N, rfl, _, _, hb⟩; exact ⟨_, _, _, rfl, hb⟩
 ·refine (Go.Proofs.Tryd.strconv_Atoi_range_var s u145_ hA u2 v2 w h2).mono ?_; rintro e w' ⟨N, rfl, _, _, hb⟩; exact ⟨_, _, _, rfl, hb⟩
theorem impl_number.calls (a0 : ByteArray) (r1 : Int) (r2 : Bool) (w : World) (hG : StopsIn w) (h : impl_number.f a0 = some (r1, r2)) :
  Calls Tryd.prog 45 #[.string a0] w fun e w' => e = .returned (.tuple #[.int .i64 r1, .bool r2]) ∧ Below w.heap.size w w' := by
 unfold impl_number.f at h
 by_cases hs : a0.size ≤ 140737488355328
 case neg => rw [if_neg hs] at h; exact absurd h u99_
 rw [if_pos hs] at h; have h := Option.some.inj h; have hG := am_ hG; rcases hA : Lib.atoiAll a0.data.toList with n | _ | _
 ·have hbd := Lib.atoiAll_bounds hA; have hok := impl_number.atoi_ok a0 hs n hA; have hit : Aside0 (strconv_Itoa.f n = some ⟨(Lib.itoa n).toArray⟩) := ⟨if_pos hbd⟩; unfold impl_number.v at h
  rw [hA] at h; clear hA; by_cases hw : -999999999 ≤ n ∧ n ≤ 999999999
  ·have hwi : Aside0 (impl_within.f n (-999999999) 999999999 = some true) := ⟨by unfold impl_within.f; rw [if_pos (show n ≥ -999999999 from hw.1), decide_eq_true hw.2]⟩; by_cases he : Lib.itoa n = a0.data.toList
   ·have heq : (⟨(Lib.itoa n).toArray⟩ : ByteArray) = a0 := by rw [he]
    have h2 : (n, true) = (r1, r2) := by rw [← h]; simp only [if_pos (show -999999999 ≤ n ∧ n ≤ 999999999 ∧ Lib.itoa n = a0.data.toList from ⟨hw.1, hw.2, he⟩)]
    obtain ⟨rfl, rfl⟩ := Prod.mk.inj h2; rw [heq] at hit; clear h h2 he heq hw hbd; go_enter Tryd.func45, Tryd.ntmps45
    go_wp2_with (first | (go_at_call 55; refine (hok _).mono ?_; rintro e w1 ⟨rfl, hb1⟩) | (go_at_call 50; refine (impl_within.calls _ _ _ _ _ hwi.out).mono ?_; rintro e w2 ⟨rfl, ⟨⟨q, rfl⟩⟩⟩) | (go_at_call 48; refine (strconv_Itoa.calls _ _ _ (StopsIn.below hG.out (pw_below_drewN hb1 q)) hit.out).mono ?_; rintro e w3 ⟨rfl, hb3⟩))
    go_ret2
    exact ⟨rfl, below_then (pw_below_drewN hb1 q) hb1.size hb3⟩
   ·have heq : ¬ (⟨(Lib.itoa n).toArray⟩ : ByteArray).toList = a0.toList := fun e => he (by rw [ByteArray.toList_eq, ByteArray.toList_eq] at e; simpa using e)
    have h2 : (0, false) = (r1, r2) := by rw [← h]; simp only [if_neg (show ¬ (-999999999 ≤ n ∧ n ≤ 999999999 ∧ Lib.itoa n = a0.data.toList) from fun hh => he hh.2.2)]
    obtain ⟨rfl, rfl⟩ := Prod.mk.inj h2; obtain ⟨y, hy⟩ : ∃ y : ByteArray, (⟨(Lib.itoa n).toArray⟩ : ByteArray) = y := ⟨_, rfl⟩; rw [hy] at hit heq; have hb0 : (y.toList != a0.toList) = true := by simpa using heq
    have hb1_ : (y.toList == a0.toList) = false := by simpa using heq
    clear h h2 he hw hbd hy; go_enter Tryd.func45, Tryd.ntmps45
    go_wp2_with (first | (go_at_call 55; refine (hok _).mono ?_; rintro e w1 ⟨rfl, hb1⟩) | (go_at_call 50; refine (impl_within.calls _ _ _ _ _ hwi.out).mono ?_; rintro e w2 ⟨rfl, ⟨⟨q, rfl⟩⟩⟩) | (go_at_call 48; refine (strconv_Itoa.calls _ _ _ (StopsIn.below hG.out (pw_below_drewN hb1 q)) hit.out).mono ?_; rintro e w3 ⟨rfl, hb3⟩))
    go_ret2
    exact ⟨rfl, below_then (pw_below_drewN hb1 q) hb1.size hb3⟩
  ·have hwi : Aside0 (impl_within.f n (-999999999) 999999999 = some false) := ⟨by
    unfold impl_within.f
    by_cases h1 : n ≥ -999999999
    ·rw [if_pos h1, decide_eq_false u145_]
    ·rw [if_neg h1]⟩
   have h2 : (0, false) = (r1, r2) := by rw [← h]; simp only [if_neg (show ¬ (-999999999 ≤ n ∧ n ≤ 999999999 ∧ Lib.itoa n = a0.data.toList) from fun hh => hw ⟨hh.1, hh.2.1⟩)]
   obtain ⟨rfl, rfl⟩ := Prod.mk.inj h2; clear h h2 hw hbd; go_enter Tryd.func45, Tryd.ntmps45
   go_wp2_with (first | (go_at_call 55; refine (hok _).mono ?_; rintro e w1 ⟨rfl, hb1⟩) | (go_at_call 50; refine (impl_within.calls _ _ _ _ _ hwi.out).mono ?_; rintro e w2 ⟨rfl, ⟨⟨q, rfl⟩⟩⟩) | (go_at_call 48; refine (strconv_Itoa.calls _ _ _ (StopsIn.below hG.out (pw_below_drewN hb1 q)) hit.out).mono ?_; rintro e w3 ⟨rfl, hb3⟩))
   go_ret2
   exact ⟨rfl, pw_below_drewN hb1 q⟩
 ·have hno := impl_number.atoi_no a0 hs (fun n e => by rw [hA] at e; cases e); have h2 : (0, false) = (r1, r2) := by rw [← h]; unfold impl_number.v; rw [hA]
  obtain ⟨rfl, rfl⟩ := Prod.mk.inj h2; clear h h2 hA; go_enter Tryd.func45, Tryd.ntmps45
  go_wp2_with (first | (go_at_call 55; refine (hno _ hG.out).mono ?_; rintro e w1 ⟨n, t, p, rfl, hb1⟩))
  go_ret2
  exact ⟨rfl, hb1⟩
 ·have hno := impl_number.atoi_no a0 hs (fun n e => by rw [hA] at e; cases e); have h2 : (0, false) = (r1, r2) := by rw [← h]; unfold impl_number.v; rw [hA]
  obtain ⟨rfl, rfl⟩ := Prod.mk.inj h2; clear h h2 hA; go_enter Tryd.func45, Tryd.ntmps45
  go_wp2_with (first | (go_at_call 55; refine (hno _ hG.out).mono ?_; rintro e w1 ⟨n, t, p, rfl, hb1⟩))
  go_ret2
  exact ⟨rfl, hb1⟩

end Go.Proofs.YtelcdhjdlgedeaaDoor.PFnDocOk
