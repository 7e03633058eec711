/- Contracts of Go functions that the law FnFields reaches: each is told as a plain Lean function, with the walk that shows it; no condition beyond what each states. Written by a program of this session round the kit's printer. -/
import Derived.Test.YtelcdhjdlgedeaaDoorRPFnFieldsx0
import Derived.Test.YtelcdhjdlgedeaaDoorRPFnFieldsx5
namespace Go.Proofs.YtelcdhjdlgedeaaDoor.PFnFields
open Go.RowKit Go.Proofs.YtelcdhjdlgedeaaDoorW.PrintWords Go.Proofs.YtelcdhjdlgedeaaDoorW.PrintLast Go.Proofs.YtelcdhjdlgedeaaDoorW.PrintMore
attribute [local go_sem] isSome_setCell run_str_geq run_str_leq max2_int min2_int max_two min_two max_three min_three max_four min_four   -- for this text's walks alone
set_option linter.unusedVariables false
set_option linter.unusedSimpArgs false

/-! ### slices_Index_string_string: function 95 -/
def slices_Index_string_string.l0 : Nat → List ByteArray → ByteArray → Int → Int → Option (Int)
 | 0, _, _, _, _ => none
 | k + 1, x0, x1, x7, x8 => if x8 < x7 then (if 0 ≤ x8 then (if x8 < (x0.length : Int) then (if x1.toList = (rdOf ByteArray.empty x0 x8).toList then (some x8) else (slices_Index_string_string.l0 k x0 x1 x7 (wrap64 (x8 + 1)))) else (none)) else (none)) else (some (-1))
def slices_Index_string_string.f (k : Nat) (l0 : List ByteArray) (a1 : ByteArray) : Option (Int) := slices_Index_string_string.l0 k l0 a1 (l0.length : Int) 0
theorem slices_Index_string_string.mono_l : ∀ k, (∀ y0 y1 y2 y3, LeO (slices_Index_string_string.l0 k y0 y1 y2 y3) (slices_Index_string_string.l0 (k + 1) y0 y1 y2 y3))
 | 0 => fun _ _ _ _ r h => by simp [slices_Index_string_string.l0] at h
 | k + 1 => by
  have ih0 := slices_Index_string_string.mono_l k
  ·intro y0 y1 y2 y3
   unfold slices_Index_string_string.l0
   repeat' first
   | (with_reducible exact ih0 _ _ _ _)
   | (with_reducible exact LeO.refl _)
   | (with_reducible exact LeO.none _)
   | (with_reducible refine LeO.ite ?_ ?_)
   | (with_reducible refine LeO.bind ?_ (fun _ => ?_))
   | exact ih0 _ _ _ _
   | exact LeO.none _
   | refine LeO.ite ?_ ?_
   | refine LeO.bind ?_ (fun _ => ?_)
theorem slices_Index_string_string.mono : ∀ a0 a1 k, LeO (slices_Index_string_string.f k a0 a1) (slices_Index_string_string.f (k + 1) a0 a1) := by
 intro a0 a1 k
 have ih0 := slices_Index_string_string.mono_l k
 unfold slices_Index_string_string.f
 repeat' first
   | (with_reducible exact ih0 _ _ _ _)
   | (with_reducible exact LeO.refl _)
   | (with_reducible exact LeO.none _)
   | (with_reducible refine LeO.ite ?_ ?_)
   | (with_reducible refine LeO.bind ?_ (fun _ => ?_))
   | exact ih0 _ _ _ _
   | exact LeO.none _
   | refine LeO.ite ?_ ?_
   | refine LeO.bind ?_ (fun _ => ?_)
set_option maxHeartbeats 8000000 in
set_option maxRecDepth 100000 in
theorem slices_Index_string_string.calls (k : Nat) (A0 : Option Addr) (c0 : Nat) (l0 : List ByteArray) (a1 : ByteArray) (r : Int) (w : World) (hr0 : Kd.C Kd.string w A0 l0.length l0) (hc0 : l0.length ≤ c0) (h : slices_Index_string_string.f k l0 a1 = some r) :
  Calls Tryd.prog 95 #[.slice A0 l0.length c0, .string a1] w fun e w' => e = .returned (.int .i64 r) ∧ Drawn0 w w' := by
 have HR0 := Aside0.mk hr0
 have HC0 := Aside0.mk hc0
 clear hr0 hc0
 have H : (slices_Index_string_string.l0 k l0 a1 (l0.length : Int) 0) = some r := h
 clear h
 have H' := Aside0.mk H
 clear H
 go_enter Tryd.func95, Tryd.ntmps95
 go_wp2
 go_loopg [8] k (fun kq v8 w' => ∃ (x8_1 : Int), v8 = .int .i64 x8_1 ∧ Aside0 (slices_Index_string_string.l0 kq l0 a1 (l0.length : Int) x8_1 = some r) ∧ Aside0 (kq ≤ k) ∧ Drawn0 w w')
 case atStart => exact ⟨(0), u10_, H', ⟨Nat.le_refl _⟩, u11_⟩
 case round =>
  clear H'
  try clear p2
  obtain ⟨x8_1, rfl, HA, HK1, ⟨m1, rfl⟩⟩ := hrel
  cases gk with
  | zero => exact absurd HA.out (by simp [slices_Index_string_string.l0])
  | succ k1 =>
   have H := HA.out
   clear HA
   simp only [slices_Index_string_string.l0] at H
   by_cases c3 : x8_1 < (l0.length : Int)
   ·rw [if_pos c3] at H
    have c3b0 : decide (x8_1 < (l0.length : Int)) = true := decide_eq_true c3
    clear c3
    by_cases c4 : 0 ≤ x8_1
    ·rw [if_pos c4] at H
     have c4b0 : decide (0 ≤ x8_1) = true := decide_eq_true c4
     clear c4
     by_cases c5 : x8_1 < (l0.length : Int)
     ·rw [if_pos c5] at H
      have c5b0 : decide (x8_1 < (l0.length : Int)) = true := decide_eq_true c5
      clear c5
      by_cases c6 : a1.toList = (rdOf ByteArray.empty l0 x8_1).toList
      ·rw [if_pos c6] at H
       have c6b0 : (a1.toList == (rdOf ByteArray.empty l0 x8_1).toList) = true := beq_iff_eq.mpr c6
       have c6b1 : (a1.toList != (rdOf ByteArray.empty l0 x8_1).toList) = false := bne_eq_false_iff_eq.mpr c6
       clear c6
       obtain rfl := Option.some.inj H
       have p177 : 0 ≤ (x8_1 : Int) := of_decide_eq_true u3_
       have q177 : x8_1 < (l0.length : Int) := of_decide_eq_true u3_
       obtain ⟨ad177, e177, hx177_0⟩ := Kd.at_string HR0.out x8_1 p177 q177
       cases e177
       replace p177 := eq_true p177
       replace q177 := eq_true q177
       go_wp2
       go_ret
       exact ⟨u12_, u11_⟩
      ·rw [if_neg c6] at H
       have c6b0 : (a1.toList == (rdOf ByteArray.empty l0 x8_1).toList) = false := beq_eq_false_iff_ne.mpr c6
       have c6b1 : (a1.toList != (rdOf ByteArray.empty l0 x8_1).toList) = true := bne_iff_ne.mpr c6
       have H' := Aside0.mk H
       clear H
       have p177 : 0 ≤ (x8_1 : Int) := of_decide_eq_true u3_
       have q177 : x8_1 < (l0.length : Int) := of_decide_eq_true u3_
       obtain ⟨ad177, e177, hx177_0⟩ := Kd.at_string HR0.out x8_1 p177 q177
       cases e177
       replace p177 := eq_true p177
       replace q177 := eq_true q177
       go_wp2
       go_roundg k1
       case measure => have := HK1.out; omega
       case rel => exact ⟨(wrap64 (x8_1 + 1)), u10_, H', ⟨u48_⟩, u11_⟩
     ·rw [if_neg c5] at H
      exact absurd H u43_
    ·rw [if_neg c4] at H
     exact absurd H u43_
   ·rw [if_neg c3] at H
    have c3b0 : decide (x8_1 < (l0.length : Int)) = false := decide_eq_false c3
    clear c3
    obtain rfl := Option.some.inj H
    go_wp2
    go_ret
    exact ⟨u12_, u11_⟩

/-! ### slices_Contains_string_string: function 67 -/
def slices_Contains_string_string.f (k : Nat) (l0 : List ByteArray) (a1 : ByteArray) : Option (Bool) := (slices_Index_string_string.f k l0 a1).bind fun t178 => (some (decide (t178 ≥ 0)))
theorem slices_Contains_string_string.mono : ∀ a0 a1 k, LeO (slices_Contains_string_string.f k a0 a1) (slices_Contains_string_string.f (k + 1) a0 a1) := by
 intro a0 a1 k
 unfold slices_Contains_string_string.f
 repeat' first
   | (with_reducible exact slices_Index_string_string.mono _ _ _)
   | (with_reducible exact LeO.refl _)
   | (with_reducible exact LeO.none _)
   | (with_reducible refine LeO.ite ?_ ?_)
   | (with_reducible refine LeO.bind ?_ (fun _ => ?_))
   | exact slices_Index_string_string.mono _ _ _
   | exact LeO.none _
   | refine LeO.ite ?_ ?_
   | refine LeO.bind ?_ (fun _ => ?_)
set_option maxHeartbeats 8000000 in
set_option maxRecDepth 100000 in
theorem slices_Contains_string_string.calls (k : Nat) (A0 : Option Addr) (c0 : Nat) (l0 : List ByteArray) (a1 : ByteArray) (r : Bool) (w : World) (hr0 : Kd.C Kd.string w A0 l0.length l0) (hc0 : l0.length ≤ c0) (h : slices_Contains_string_string.f k l0 a1 = some r) :
  Calls Tryd.prog 67 #[.slice A0 l0.length c0, .string a1] w fun e w' => e = .returned (.bool r) ∧ Drawn0 w w' := by
 have HR0 := Aside0.mk hr0
 have HC0 := Aside0.mk hc0
 clear hr0 hc0
 have H : ((slices_Index_string_string.f k l0 a1).bind fun t178 => (some (decide (t178 ≥ 0)))) = some r := h
 clear h
 replace H := Option.bind_eq_some_iff.mp H
 obtain ⟨t178, A30, H⟩ := H
 replace H : (some (decide (t178 ≥ 0))) = some r := H
 have A3 := Aside0.mk A30
 clear A30
 obtain rfl := Option.some.inj H
 go_enter Tryd.func67, Tryd.ntmps67
 go_wp2_with (first | ((with_reducible refine gate_callee (f := 95) rfl ?_); refine goesL_ (some 7) rfl rfl Tryd.func95 u20_ rfl #[.slice A0 l0.length c0, .string a1] rfl u1_ ?_; (with_reducible refine (slices_Index_string_string.calls k _ _ l0 a1 t178 _ ?side1 ?side2 A3.out).mono ?_); (case side1 => repeat (first | exact HR0.out | (with_reducible refine Kd.C_alloc ?_ _) | (with_reducible refine Kd.C_drewN ?_ _) | (with_reducible refine Kd.C_drew ?_))); (case side2 => exact HC0.out); rintro e w' ⟨rfl, ⟨nd, rfl⟩⟩; refine ⟨_, rfl, ?_⟩))
 go_ret
 exact ⟨u12_, u11_⟩

/-! ### impl_FieldsOk: function 28 -/
mutual
def impl_FieldsOk.l0 : Nat → List (S75) → List ByteArray → List (S75) → Int → Int → Option (Bool)
 | 0, _, _, _, _, _ => none
 | k + 1, x0, x3, x8, x9, x10 => if x10 < x9 then (if 0 ≤ x10 then (if x10 < (x8.length : Int) then (if ((rd_T75 x8 x10).f1) = 1 then ((impl_within.f ((rd_T75 x8 x10).f2) 1 9).bind fun t185 => (impl_FieldsOk.j1 k x0 x3 t185 x8 x9 x10 ((rd_T75 x8 x10).f0) ((rd_T75 x8 x10).f1) ((rd_T75 x8 x10).f2))) else (impl_FieldsOk.j1 k x0 x3 (((rd_T75 x8 x10).f2) == 0) x8 x9 x10 ((rd_T75 x8 x10).f0) ((rd_T75 x8 x10).f1) ((rd_T75 x8 x10).f2))) else (none)) else (none)) else ((impl_within.f (x0.length : Int) 1 4).bind fun t182 => (some t182))
def impl_FieldsOk.j1 : Nat → List (S75) → List ByteArray → Bool → List (S75) → Int → Int → ByteArray → Int → Int → Option (Bool)
 | 0, _, _, _, _, _, _, _, _, _ => none
 | k + 1, x0, x3, x6, x8, x9, x10, x185000, x185001, x185002 => (impl_NameOk.f k x185000).bind fun t186 => (if t186 = true then ((slices_Contains_string_string.f k x3 x185000).bind fun t187 => (if t187 = true then (some false) else ((impl_within.f x185001 1 3).bind fun t188 => (if t188 = true then (if x6 = true then (if x3.length < 8796093022208 then (impl_FieldsOk.l0 k x0 (x3 ++ [x185000]) x8 x9 (wrap64 (x10 + 1))) else (none)) else (some false)) else (some false))))) else (some false))
end
def impl_FieldsOk.f (k : Nat) (l0 : List (S75)) : Option (Bool) := impl_FieldsOk.l0 k l0 (([] : List ByteArray)) l0 (l0.length : Int) 0
theorem impl_FieldsOk.mono_l : ∀ k, (∀ y0 y1 y2 y3 y4, LeO (impl_FieldsOk.l0 k y0 y1 y2 y3 y4) (impl_FieldsOk.l0 (k + 1) y0 y1 y2 y3 y4)) ∧ (∀ y0 y1 y2 y3 y4 y5 y6 y7 y8, LeO (impl_FieldsOk.j1 k y0 y1 y2 y3 y4 y5 y6 y7 y8) (impl_FieldsOk.j1 (k + 1) y0 y1 y2 y3 y4 y5 y6 y7 y8))
 | 0 => ⟨fun _ _ _ _ _ r h => by simp [impl_FieldsOk.l0] at h, fun _ _ _ _ _ _ _ _ _ r h => by simp [impl_FieldsOk.j1] at h⟩
 | k + 1 => by
  obtain ⟨ih0, ih1⟩ := impl_FieldsOk.mono_l k
  refine ⟨?_, ?_⟩
  ·intro y0 y1 y2 y3 y4
   unfold impl_FieldsOk.l0
   repeat' first
   | (with_reducible exact ih0 _ _ _ _ _)
   | (with_reducible exact ih1 _ _ _ _ _ _ _ _ _)
   | (with_reducible exact impl_NameOk.mono _ _)
   | (with_reducible exact slices_Contains_string_string.mono _ _ _)
   | (with_reducible exact LeO.refl _)
   | (with_reducible exact LeO.none _)
   | (with_reducible refine LeO.ite ?_ ?_)
   | (with_reducible refine LeO.bind ?_ (fun _ => ?_))
   | exact ih0 _ _ _ _ _
   | exact ih1 _ _ _ _ _ _ _ _ _
   | exact impl_NameOk.mono _ _
   | exact slices_Contains_string_string.mono _ _ _
   | exact LeO.none _
   | refine LeO.ite ?_ ?_
   | refine LeO.bind ?_ (fun _ => ?_)
  ·intro y0 y1 y2 y3 y4 y5 y6 y7 y8
   unfold impl_FieldsOk.j1
   repeat' first
   | (with_reducible exact ih0 _ _ _ _ _)
   | (with_reducible exact ih1 _ _ _ _ _ _ _ _ _)
   | (with_reducible exact impl_NameOk.mono _ _)
   | (with_reducible exact slices_Contains_string_string.mono _ _ _)
   | (with_reducible exact LeO.refl _)
   | (with_reducible exact LeO.none _)
   | (with_reducible refine LeO.ite ?_ ?_)
   | (with_reducible refine LeO.bind ?_ (fun _ => ?_))
   | exact ih0 _ _ _ _ _
   | exact ih1 _ _ _ _ _ _ _ _ _
   | exact impl_NameOk.mono _ _
   | exact slices_Contains_string_string.mono _ _ _
   | exact LeO.none _
   | refine LeO.ite ?_ ?_
   | refine LeO.bind ?_ (fun _ => ?_)
theorem impl_FieldsOk.mono : ∀ a0 k, LeO (impl_FieldsOk.f k a0) (impl_FieldsOk.f (k + 1) a0) := by
 intro a0 k
 obtain ⟨ih0, ih1⟩ := impl_FieldsOk.mono_l k
 unfold impl_FieldsOk.f
 repeat' first
   | (with_reducible exact ih0 _ _ _ _ _)
   | (with_reducible exact ih1 _ _ _ _ _ _ _ _ _)
   | (with_reducible exact impl_NameOk.mono _ _)
   | (with_reducible exact slices_Contains_string_string.mono _ _ _)
   | (with_reducible exact LeO.refl _)
   | (with_reducible exact LeO.none _)
   | (with_reducible refine LeO.ite ?_ ?_)
   | (with_reducible refine LeO.bind ?_ (fun _ => ?_))
   | exact ih0 _ _ _ _ _
   | exact ih1 _ _ _ _ _ _ _ _ _
   | exact impl_NameOk.mono _ _
   | exact slices_Contains_string_string.mono _ _ _
   | exact LeO.none _
   | refine LeO.ite ?_ ?_
   | refine LeO.bind ?_ (fun _ => ?_)
set_option maxHeartbeats 8000000 in
set_option maxRecDepth 100000 in
theorem impl_FieldsOk.calls (k : Nat) (A0 : Option Addr) (c0 : Nat) (l0 : List (S75)) (r : Bool) (w : World) (hr0 : Kd.C k75 w A0 l0.length l0) (hc0 : l0.length ≤ c0) (h : impl_FieldsOk.f k l0 = some r) :
  Calls Tryd.prog 28 #[.slice A0 l0.length c0] w fun e w' => e = .returned (.bool r) ∧ Below w.heap.size w w' := by
 have hu75 := Tryd.underlying75
 have HR0 := Aside0.mk hr0
 have HC0 := Aside0.mk hc0
 clear hr0 hc0
 have HB := Aside0.mk (Below.refl w.heap.size w)
 have H : (impl_FieldsOk.l0 k l0 (([] : List ByteArray)) l0 (l0.length : Int) 0) = some r := h
 clear h
 obtain ⟨y179, hy179⟩ : ∃ y_ : List ByteArray, y_ = (([] : List ByteArray)) := ⟨_, rfl⟩
 replace H : (impl_FieldsOk.l0 k l0 y179 l0 (l0.length : Int) 0) = some r := by first | (rw [hy179]; with_reducible exact H) | (have H2_ := (Option.bind_some _ _).symm.trans H; rw [hy179]; with_reducible exact H2_) | (have H2_ := (Option.bind_some _ _).symm.trans H; with_reducible exact H2_) | with_reducible exact H | (rw [hy179]; exact H) | exact H
 have Ny179 := Aside0.mk hy179
 clear hy179
 have H' := Aside0.mk H
 clear H
 go_enter Tryd.func28, Tryd.ntmps28
 go_wp2_with (first | ((with_reducible refine gate_dst (N := 7) rfl ?_); refine Kd.R_lit Kd.string _ 9 ?hg (N := 7) ?hd (xs := ([] : List ByteArray)) (inner := []) (ok := fun _ => True) (okp := fun _ => True) ?hr ?hp (fun _ hk => hk) trivial (Below.refl _ _) (Nat.le_refl _) u43_ ?_; (case hd => rfl); (case hg => rfl); (case hr => first | (go_simp; done) | (go_simp; rfl)); (case hp => exact (Reps.none _ _)); intro v180 w2 ho3 hb hg_ hnew_; clear hg_ hnew_; (first | rw [← Ny179.out] at ho3 | (simp only [Int.reduceToNat] at ho3; rw [← Ny179.out] at ho3)); have n0_ := Aside0.mk (Kd.R_lower ho3 (below_size u0_)); have n1_ := Aside0.mk (below_step u0_ hb); clear HB; have HO181 := n0_; have HB := n1_; clear n0_ n1_; clear hb ho3))
 go_loopg [3, 10] k (fun kq v3 v10 w' => ∃ (x3_1 : List ByteArray) (x10_1 : Int), v10 = .int .i64 x10_1 ∧ Aside0 (impl_FieldsOk.l0 kq l0 x3_1 l0 (l0.length : Int) x10_1 = some r) ∧ Aside0 (kq ≤ k) ∧ Aside0 (Kd.R Kd.string 9 w' w.heap.size (fun _ => True) v3 x3_1) ∧ Aside0 (Below w.heap.size w w'))
 case atStart => exact ⟨(y179), (0), u10_, H', ⟨Nat.le_refl _⟩, ⟨by (with_reducible repeat (first | apply Kd.R_alloc | apply Kd.R_drewN | apply Kd.R_drew)); exact HO181.out⟩, ⟨u0_⟩⟩
 case round =>
  clear H'
  try clear c2
  try clear p2
  obtain ⟨x3_1, x10_1, rfl, HA, HK1, HO_3, HB⟩ := hrel
  cases gk with
  | zero => exact absurd HA.out (by simp [impl_FieldsOk.l0])
  | succ k1 =>
   have H := HA.out
   clear HA
   simp only [impl_FieldsOk.l0] at H
   by_cases c4 : x10_1 < (l0.length : Int)
   ·rw [if_pos c4] at H
    have c4b0 : decide (x10_1 < (l0.length : Int)) = true := decide_eq_true c4
    clear c4
    by_cases c5 : 0 ≤ x10_1
    ·rw [if_pos c5] at H
     have c5b0 : decide (0 ≤ x10_1) = true := decide_eq_true c5
     clear c5
     by_cases c6 : x10_1 < (l0.length : Int)
     ·rw [if_pos c6] at H
      have c6b0 : decide (x10_1 < (l0.length : Int)) = true := decide_eq_true c6
      clear c6
      have HC7 := Aside0.mk H
      clear H
      have p183 : 0 ≤ (x10_1 : Int) := of_decide_eq_true u3_
      have q183 : x10_1 < (l0.length : Int) := of_decide_eq_true u3_
      obtain ⟨ad183, e183, hx183_0, hx183_1, hx183_2⟩ := at_T75 HR0.out x10_1 p183 q183
      cases e183
      replace hx183_0 := (HB.out.cell (World.block_lt_of_cell? w _ hx183_0)).trans hx183_0
      replace hx183_1 := (HB.out.cell (World.block_lt_of_cell? w _ hx183_1)).trans hx183_1
      replace hx183_2 := (HB.out.cell (World.block_lt_of_cell? w _ hx183_2)).trans hx183_2
      replace p183 := eq_true p183
      replace q183 := eq_true q183
      go_upto_if 19 with (first | ((with_reducible refine gate_dst (N := 5) rfl ?_); refine box_event ?hg (N := 5) ?hd (cs := #[.string (⟨#[]⟩ : ByteArray), .int .i64 0, .int .i64 0]) (t := 75) ?hr ?_; (case hd => rfl); (case hg => rfl); (case hr => first | (go_simp; done) | (go_simp; rfl)); intro gb184 hg w8 hbox hb; have n0_ := Aside0.mk (Kd.R_below u16_ hb); have n1_ := Aside0.mk (below_step u0_ hb); have n2_ := Aside0.mk (hbox); have n3_ := Aside0.mk ((by rw [hg]; exact (below_size u0_) : w.heap.size ≤ gb184)); have n4_ := n3_; clear HO_3; clear HB; have HO_3 := n0_; have HB := n1_; have BK184 := n2_; have GW184 := n3_; have GE184 := n4_; clear n0_ n1_ n2_ n3_ n4_; clear hb hbox hg; have hcz9_0 : w8.cell? ⟨gb184, 0, none⟩ = some (.string (⟨#[]⟩ : ByteArray)) := (blk_cell BK184.out 0).trans rfl; have hcz9_1 : w8.cell? ⟨gb184, 1, none⟩ = some (.int .i64 0) := (blk_cell BK184.out 1).trans rfl; have hcz9_2 : w8.cell? ⟨gb184, 2, none⟩ = some (.int .i64 0) := (blk_cell BK184.out 2).trans rfl; have hfz9_0 := blk_frozen BK184.out 0; have hfz9_1 := blk_frozen BK184.out 1; have hfz9_2 := blk_frozen BK184.out 2))
      (try simp only [Act.put, List.setIfInBounds_toArray, List.set_cons_zero, List.set_cons_succ])
      go_cut [6] (fun v6 wc => ∃ (kq : Nat) (x6_6 : Bool), v6 = .bool x6_6 ∧ Aside0 (impl_FieldsOk.j1 kq l0 x3_1 x6_6 l0 (l0.length : Int) x10_1 ((rd_T75 l0 x10_1).f0) ((rd_T75 l0 x10_1).f1) ((rd_T75 l0 x10_1).f2) = some r) ∧ Aside0 (kq ≤ k1) ∧ Aside0 (Kd.R Kd.string 9 wc w.heap.size (fun _ => True) u3 x3_1) ∧ Aside0 (wc.heap[gb184]? = some (.cells #[.string ((rd_T75 l0 x10_1).f0), .int .i64 ((rd_T75 l0 x10_1).f1), .int .i64 ((rd_T75 l0 x10_1).f2)] 75 (0, 0))) ∧ Aside0 (Below w.heap.size w wc))
      case first =>
       have H := HC7.out
       clear HC7
       by_cases c10 : ((rd_T75 l0 x10_1).f1) = 1
       ·rw [if_pos c10] at H
        have c10b0 : (((rd_T75 l0 x10_1).f1) == 1) = true := beq_iff_eq.mpr c10
        have c10b1 : (((rd_T75 l0 x10_1).f1) != 1) = false := bne_eq_false_iff_eq.mpr c10
        clear c10
        (first | rw [c10b0] | (simp only [i64_w, i32_w]; rw [c10b0]) | skip)
        replace H := Option.bind_eq_some_iff.mp H
        obtain ⟨t185, A110, H⟩ := H
        replace H : (impl_FieldsOk.j1 k1 l0 x3_1 t185 l0 (l0.length : Int) x10_1 ((rd_T75 l0 x10_1).f0) ((rd_T75 l0 x10_1).f1) ((rd_T75 l0 x10_1).f2)) = some r := H
        have A11 := Aside0.mk A110
        clear A110
        have H' := Aside0.mk H
        clear H
        have hcz12_0 : w8.cell? ⟨gb184, 0, none⟩ = some (.string (⟨#[]⟩ : ByteArray)) := (blk_cell BK184.out 0).trans rfl
        have hcz12_1 : w8.cell? ⟨gb184, 1, none⟩ = some (.int .i64 0) := (blk_cell BK184.out 1).trans rfl
        have hcz12_2 : w8.cell? ⟨gb184, 2, none⟩ = some (.int .i64 0) := (blk_cell BK184.out 2).trans rfl
        have hfz12_0 := blk_frozen BK184.out 0
        have hfz12_1 := blk_frozen BK184.out 1
        have hfz12_2 := blk_frozen BK184.out 2
        go_wp2_with (first | ((with_reducible refine gate_callee (f := 50) rfl ?_); refine goesL_ (some 22) rfl rfl Tryd.func50 u20_ rfl #[.int .i64 ((rd_T75 l0 x10_1).f2), .int .i64 1, .int .i64 9] rfl u1_ ?_; (with_reducible refine (impl_within.calls ((rd_T75 l0 x10_1).f2) 1 9 t185 _ A11.out).mono ?_); rintro e w' ⟨rfl, ⟨nd, rfl⟩⟩; refine ⟨_, rfl, ?_⟩))
        go_meet
        case rel => exact ⟨_, (t185), u10_, H', ⟨u62_⟩, ⟨u66_⟩, ⟨u32_⟩, ⟨u22_⟩⟩
       ·rw [if_neg c10] at H
        have c10b0 : (((rd_T75 l0 x10_1).f1) == 1) = false := beq_eq_false_iff_ne.mpr c10
        have c10b1 : (((rd_T75 l0 x10_1).f1) != 1) = true := bne_iff_ne.mpr c10
        (first | rw [c10b0] | (simp only [i64_w, i32_w]; rw [c10b0]) | skip)
        have H' := Aside0.mk H
        clear H
        go_wp2
        go_meet
        case rel => exact ⟨_, ((((rd_T75 l0 x10_1).f2) == 0)), u10_, H', ⟨u62_⟩, ⟨u66_⟩, ⟨u32_⟩, ⟨u22_⟩⟩
      case rest =>
       clear HC7
       try clear c1
       try clear p1
       try clear q1
       try clear hx1
       try clear c2
       try clear p2
       try clear c4
       try clear c4b0
       try clear c5
       try clear c5b0
       try clear c6
       try clear c6b0
       try clear c10
       try clear c10b0
       try clear c10b1
       try clear hcz12_0
       try clear hcz12_1
       try clear hcz12_2
       try clear hcz9_0
       try clear hcz9_1
       try clear hcz9_2
       try clear hfz12_0
       try clear hfz12_1
       try clear hfz12_2
       try clear hfz9_0
       try clear hfz9_1
       try clear hfz9_2
       try clear hx183_0
       try clear hx183_1
       try clear hx183_2
       try clear p183
       try clear p2
       try clear q183
       obtain ⟨kq, x6_6, rfl, HA, HJ6, HO_3, BK184, HB⟩ := hcut
       cases kq with
       | zero => exact absurd HA.out (by simp [impl_FieldsOk.j1])
       | succ kj6 =>
        have H := HA.out
        clear HA
        simp only [impl_FieldsOk.j1] at H
        replace H := Option.bind_eq_some_iff.mp H
        obtain ⟨t186, A130, H⟩ := H
        replace H : (if t186 = true then ((slices_Contains_string_string.f kj6 x3_1 ((rd_T75 l0 x10_1).f0)).bind fun t187 => (if t187 = true then (some false) else ((impl_within.f ((rd_T75 l0 x10_1).f1) 1 3).bind fun t188 => (if t188 = true then (if x6_6 = true then (if x3_1.length < 8796093022208 then (impl_FieldsOk.l0 kj6 l0 (x3_1 ++ [((rd_T75 l0 x10_1).f0)]) l0 (l0.length : Int) (wrap64 (x10_1 + 1))) else (none)) else (some false)) else (some false))))) else (some false)) = some r := H
        have A13 := Aside0.mk A130
        clear A130
        by_cases c14 : t186 = true
        ·subst c14
         have H1 : ((slices_Contains_string_string.f kj6 x3_1 ((rd_T75 l0 x10_1).f0)).bind fun t187 => (if t187 = true then (some false) else ((impl_within.f ((rd_T75 l0 x10_1).f1) 1 3).bind fun t188 => (if t188 = true then (if x6_6 = true then (if x3_1.length < 8796093022208 then (impl_FieldsOk.l0 kj6 l0 (x3_1 ++ [((rd_T75 l0 x10_1).f0)]) l0 (l0.length : Int) (wrap64 (x10_1 + 1))) else (none)) else (some false)) else (some false))))) = some r := by rw [if_pos rfl] at H; exact H
         clear H
         have H := H1
         clear H1
         replace H := Option.bind_eq_some_iff.mp H
         obtain ⟨t187, A150, H⟩ := H
         replace H : (if t187 = true then (some false) else ((impl_within.f ((rd_T75 l0 x10_1).f1) 1 3).bind fun t188 => (if t188 = true then (if x6_6 = true then (if x3_1.length < 8796093022208 then (impl_FieldsOk.l0 kj6 l0 (x3_1 ++ [((rd_T75 l0 x10_1).f0)]) l0 (l0.length : Int) (wrap64 (x10_1 + 1))) else (none)) else (some false)) else (some false)))) = some r := H
         have A15 := Aside0.mk A150
         clear A150
         by_cases c16 : t187 = true
         ·subst c16
          have H1 : (some false) = some r := by rw [if_pos rfl] at H; exact H
          clear H
          have H := H1
          clear H1
          obtain rfl := Option.some.inj H
          have hcz17_0 : wc.cell? ⟨gb184, 0, none⟩ = some (.string ((rd_T75 l0 x10_1).f0)) := (blk_cell BK184.out 0).trans rfl
          have hcz17_1 : wc.cell? ⟨gb184, 1, none⟩ = some (.int .i64 ((rd_T75 l0 x10_1).f1)) := (blk_cell BK184.out 1).trans rfl
          have hcz17_2 : wc.cell? ⟨gb184, 2, none⟩ = some (.int .i64 ((rd_T75 l0 x10_1).f2)) := (blk_cell BK184.out 2).trans rfl
          have hfz17_0 := blk_frozen BK184.out 0
          have hfz17_1 := blk_frozen BK184.out 1
          have hfz17_2 := blk_frozen BK184.out 2
          go_wp2_with (first | ((with_reducible refine gate_callee (f := 66) rfl ?_); refine goesL_ (some 25) rfl rfl Tryd.func66 u20_ rfl #[.string ((rd_T75 l0 x10_1).f0)] rfl u1_ ?_; (with_reducible refine (impl_NameOk.calls kj6 ((rd_T75 l0 x10_1).f0) true _ A13.out).mono ?_); rintro e w' ⟨rfl, ⟨nd, rfl⟩⟩; refine ⟨_, rfl, ?_⟩; obtain ⟨Ao18, co18, eo18⟩ := Kd.R_slice HO_3.out; subst eo18) | (go_at_call 67; (with_reducible refine (slices_Contains_string_string.calls kj6 _ _ x3_1 ((rd_T75 l0 x10_1).f0) true _ ?side1 ?side2 A15.out).mono ?_); (case side1 => repeat (first | exact (Kd.R_reads' HO_3.out).2.2 | (with_reducible refine Kd.C_alloc ?_ _) | (with_reducible refine Kd.C_drewN ?_ _) | (with_reducible refine Kd.C_drew ?_))); (case side2 => exact (Kd.R_reads' HO_3.out).2.1); rintro e w' ⟨rfl, ⟨nd, rfl⟩⟩))
          go_ret
          exact ⟨u4_, u22_⟩
         ·replace c16 := Bool.eq_false_iff.mpr c16
          subst c16
          have H1 : ((impl_within.f ((rd_T75 l0 x10_1).f1) 1 3).bind fun t188 => (if t188 = true then (if x6_6 = true then (if x3_1.length < 8796093022208 then (impl_FieldsOk.l0 kj6 l0 (x3_1 ++ [((rd_T75 l0 x10_1).f0)]) l0 (l0.length : Int) (wrap64 (x10_1 + 1))) else (none)) else (some false)) else (some false))) = some r := by rw [if_neg (show ¬ (false = true) by decide)] at H; exact H
          clear H
          have H := H1
          clear H1
          replace H := Option.bind_eq_some_iff.mp H
          obtain ⟨t188, A190, H⟩ := H
          replace H : (if t188 = true then (if x6_6 = true then (if x3_1.length < 8796093022208 then (impl_FieldsOk.l0 kj6 l0 (x3_1 ++ [((rd_T75 l0 x10_1).f0)]) l0 (l0.length : Int) (wrap64 (x10_1 + 1))) else (none)) else (some false)) else (some false)) = some r := H
          have A19 := Aside0.mk A190
          clear A190
          by_cases c20 : t188 = true
          ·subst c20
           have H1 : (if x6_6 = true then (if x3_1.length < 8796093022208 then (impl_FieldsOk.l0 kj6 l0 (x3_1 ++ [((rd_T75 l0 x10_1).f0)]) l0 (l0.length : Int) (wrap64 (x10_1 + 1))) else (none)) else (some false)) = some r := by rw [if_pos rfl] at H; exact H
           clear H
           have H := H1
           clear H1
           by_cases c21 : x6_6 = true
           ·subst c21
            have H1 : (if x3_1.length < 8796093022208 then (impl_FieldsOk.l0 kj6 l0 (x3_1 ++ [((rd_T75 l0 x10_1).f0)]) l0 (l0.length : Int) (wrap64 (x10_1 + 1))) else (none)) = some r := by rw [if_pos rfl] at H; exact H
            clear H
            have H := H1
            clear H1
            by_cases c22 : x3_1.length < 8796093022208
            ·rw [if_pos c22] at H
             have LMc22 := Aside0.mk c22
             clear c22
             obtain ⟨y189, hy189⟩ : ∃ y_ : List ByteArray, y_ = (x3_1 ++ [((rd_T75 l0 x10_1).f0)]) := ⟨_, rfl⟩
             replace H : (impl_FieldsOk.l0 kj6 l0 y189 l0 (l0.length : Int) (wrap64 (x10_1 + 1))) = some r := by first | (rw [hy189]; with_reducible exact H) | (have H2_ := (Option.bind_some _ _).symm.trans H; rw [hy189]; with_reducible exact H2_) | (have H2_ := (Option.bind_some _ _).symm.trans H; with_reducible exact H2_) | with_reducible exact H | (rw [hy189]; exact H) | exact H
             have Ny189 := Aside0.mk hy189
             clear hy189
             have H' := Aside0.mk H
             clear H
             have hcz23_0 : wc.cell? ⟨gb184, 0, none⟩ = some (.string ((rd_T75 l0 x10_1).f0)) := (blk_cell BK184.out 0).trans rfl
             have hcz23_1 : wc.cell? ⟨gb184, 1, none⟩ = some (.int .i64 ((rd_T75 l0 x10_1).f1)) := (blk_cell BK184.out 1).trans rfl
             have hcz23_2 : wc.cell? ⟨gb184, 2, none⟩ = some (.int .i64 ((rd_T75 l0 x10_1).f2)) := (blk_cell BK184.out 2).trans rfl
             have hfz23_0 := blk_frozen BK184.out 0
             have hfz23_1 := blk_frozen BK184.out 1
             have hfz23_2 := blk_frozen BK184.out 2
             go_wp2_with (first | ((with_reducible refine gate_callee (f := 66) rfl ?_); refine goesL_ (some 25) rfl rfl Tryd.func66 u20_ rfl #[.string ((rd_T75 l0 x10_1).f0)] rfl u1_ ?_; (with_reducible refine (impl_NameOk.calls kj6 ((rd_T75 l0 x10_1).f0) true _ A13.out).mono ?_); rintro e w' ⟨rfl, ⟨nd, rfl⟩⟩; refine ⟨_, rfl, ?_⟩; obtain ⟨Ao24, co24, eo24⟩ := Kd.R_slice HO_3.out; subst eo24) | (go_at_call 67; (with_reducible refine (slices_Contains_string_string.calls kj6 _ _ x3_1 ((rd_T75 l0 x10_1).f0) false _ ?side1 ?side2 A15.out).mono ?_); (case side1 => repeat (first | exact (Kd.R_reads' HO_3.out).2.2 | (with_reducible refine Kd.C_alloc ?_ _) | (with_reducible refine Kd.C_drewN ?_ _) | (with_reducible refine Kd.C_drew ?_))); (case side2 => exact (Kd.R_reads' HO_3.out).2.1); rintro e w' ⟨rfl, ⟨nd, rfl⟩⟩) | (go_at_call 50; (with_reducible refine (impl_within.calls ((rd_T75 l0 x10_1).f1) 1 3 true _ A19.out).mono ?_); rintro e w' ⟨rfl, ⟨nd, rfl⟩⟩) | ((with_reducible refine gate_builtin (b := .append) (xs := #[.tmp 43, .tmp 46]) rfl ?_); at_builtin; refine Kd.R_append Kd.string (w0 := w) w.heap.size rfl (.tmp 43) (.tmp 46) 61 9 (.string ⟨#[]⟩) 16 rfl Tryd.underlying61 info9 rfl u31_ u44_ (.slice Ao24 x3_1.length co24) x3_1 ((rd_T75 l0 x10_1).f0) [.string ((rd_T75 l0 x10_1).f0)] (fun _ => True) (fun _ => False) rfl rfl ?aP (fun _ hk => hk.elim) ?aF ?aO ?aB ?aS ?aL ?_; (case aP => exact rfl); (case aB => exact u22_); (case aF => exact (fun _ _ => trivial)); (case aO => exact u16_); (case aS => exact (below_size u22_)); (case aL => have := LMc22.out; omega); intro v190 w25 ho hb hg hat; rw [← Ny189.out] at ho; have n0_ := Aside0.mk (blk_grown (g := gb184) (o := .cells #[.string ((rd_T75 l0 x10_1).f0), .int .i64 ((rd_T75 l0 x10_1).f1), .int .i64 ((rd_T75 l0 x10_1).f2)] 75 (0, 0)) (by (with_reducible repeat (first | refine blk_drewN ?_ _ | refine blk_drew ?_ | refine blk_alloc ?_ _)); exact BK184.out) hg (Kd.R_ne HO_3.out BK184.out u31_)); have n1_ := Aside0.mk (hb); have n2_ := Aside0.mk (ho); clear BK184; clear HB; clear HO_3; have BK184 := n0_; have HB := n1_; have HO191 := n2_; clear n0_ n1_ n2_; clear ho hb hg hat))
             go_roundg kj6
             case measure => have := HK1.out; have := HJ6.out; omega
             case rel => exact ⟨(y189), (wrap64 (x10_1 + 1)), u10_, H', ⟨by have := HK1.out; have := HJ6.out; omega⟩, ⟨by (with_reducible repeat (first | apply Kd.R_alloc | apply Kd.R_drewN | apply Kd.R_drew)); exact HO191.out⟩, ⟨u22_⟩⟩
            ·rw [if_neg c22] at H
             exact absurd H u43_
           ·replace c21 := Bool.eq_false_iff.mpr c21
            subst c21
            have H1 : (some false) = some r := by rw [if_neg (show ¬ (false = true) by decide)] at H; exact H
            clear H
            have H := H1
            clear H1
            obtain rfl := Option.some.inj H
            have hcz26_0 : wc.cell? ⟨gb184, 0, none⟩ = some (.string ((rd_T75 l0 x10_1).f0)) := (blk_cell BK184.out 0).trans rfl
            have hcz26_1 : wc.cell? ⟨gb184, 1, none⟩ = some (.int .i64 ((rd_T75 l0 x10_1).f1)) := (blk_cell BK184.out 1).trans rfl
            have hcz26_2 : wc.cell? ⟨gb184, 2, none⟩ = some (.int .i64 ((rd_T75 l0 x10_1).f2)) := (blk_cell BK184.out 2).trans rfl
            have hfz26_0 := blk_frozen BK184.out 0
            have hfz26_1 := blk_frozen BK184.out 1
            have hfz26_2 := blk_frozen BK184.out 2
            go_wp2_with (first | ((with_reducible refine gate_callee (f := 66) rfl ?_); refine goesL_ (some 25) rfl rfl Tryd.func66 u20_ rfl #[.string ((rd_T75 l0 x10_1).f0)] rfl u1_ ?_; (with_reducible refine (impl_NameOk.calls kj6 ((rd_T75 l0 x10_1).f0) true _ A13.out).mono ?_); rintro e w' ⟨rfl, ⟨nd, rfl⟩⟩; refine ⟨_, rfl, ?_⟩; obtain ⟨Ao27, co27, eo27⟩ := Kd.R_slice HO_3.out; subst eo27) | (go_at_call 67; (with_reducible refine (slices_Contains_string_string.calls kj6 _ _ x3_1 ((rd_T75 l0 x10_1).f0) false _ ?side1 ?side2 A15.out).mono ?_); (case side1 => repeat (first | exact (Kd.R_reads' HO_3.out).2.2 | (with_reducible refine Kd.C_alloc ?_ _) | (with_reducible refine Kd.C_drewN ?_ _) | (with_reducible refine Kd.C_drew ?_))); (case side2 => exact (Kd.R_reads' HO_3.out).2.1); rintro e w' ⟨rfl, ⟨nd, rfl⟩⟩) | (go_at_call 50; (with_reducible refine (impl_within.calls ((rd_T75 l0 x10_1).f1) 1 3 true _ A19.out).mono ?_); rintro e w' ⟨rfl, ⟨nd, rfl⟩⟩))
            go_ret
            exact ⟨u4_, u22_⟩
          ·replace c20 := Bool.eq_false_iff.mpr c20
           subst c20
           have H1 : (some false) = some r := by rw [if_neg (show ¬ (false = true) by decide)] at H; exact H
           clear H
           have H := H1
           clear H1
           obtain rfl := Option.some.inj H
           have hcz28_0 : wc.cell? ⟨gb184, 0, none⟩ = some (.string ((rd_T75 l0 x10_1).f0)) := (blk_cell BK184.out 0).trans rfl
           have hcz28_1 : wc.cell? ⟨gb184, 1, none⟩ = some (.int .i64 ((rd_T75 l0 x10_1).f1)) := (blk_cell BK184.out 1).trans rfl
           have hcz28_2 : wc.cell? ⟨gb184, 2, none⟩ = some (.int .i64 ((rd_T75 l0 x10_1).f2)) := (blk_cell BK184.out 2).trans rfl
           have hfz28_0 := blk_frozen BK184.out 0
           have hfz28_1 := blk_frozen BK184.out 1
           have hfz28_2 := blk_frozen BK184.out 2
           go_wp2_with (first | ((with_reducible refine gate_callee (f := 66) rfl ?_); refine goesL_ (some 25) rfl rfl Tryd.func66 u20_ rfl #[.string ((rd_T75 l0 x10_1).f0)] rfl u1_ ?_; (with_reducible refine (impl_NameOk.calls kj6 ((rd_T75 l0 x10_1).f0) true _ A13.out).mono ?_); rintro e w' ⟨rfl, ⟨nd, rfl⟩⟩; refine ⟨_, rfl, ?_⟩; obtain ⟨Ao29, co29, eo29⟩ := Kd.R_slice HO_3.out; subst eo29) | (go_at_call 67; (with_reducible refine (slices_Contains_string_string.calls kj6 _ _ x3_1 ((rd_T75 l0 x10_1).f0) false _ ?side1 ?side2 A15.out).mono ?_); (case side1 => repeat (first | exact (Kd.R_reads' HO_3.out).2.2 | (with_reducible refine Kd.C_alloc ?_ _) | (with_reducible refine Kd.C_drewN ?_ _) | (with_reducible refine Kd.C_drew ?_))); (case side2 => exact (Kd.R_reads' HO_3.out).2.1); rintro e w' ⟨rfl, ⟨nd, rfl⟩⟩) | (go_at_call 50; (with_reducible refine (impl_within.calls ((rd_T75 l0 x10_1).f1) 1 3 false _ A19.out).mono ?_); rintro e w' ⟨rfl, ⟨nd, rfl⟩⟩))
           go_ret
           exact ⟨u4_, u22_⟩
        ·replace c14 := Bool.eq_false_iff.mpr c14
         subst c14
         have H1 : (some false) = some r := by rw [if_neg (show ¬ (false = true) by decide)] at H; exact H
         clear H
         have H := H1
         clear H1
         obtain rfl := Option.some.inj H
         have hcz30_0 : wc.cell? ⟨gb184, 0, none⟩ = some (.string ((rd_T75 l0 x10_1).f0)) := (blk_cell BK184.out 0).trans rfl
         have hcz30_1 : wc.cell? ⟨gb184, 1, none⟩ = some (.int .i64 ((rd_T75 l0 x10_1).f1)) := (blk_cell BK184.out 1).trans rfl
         have hcz30_2 : wc.cell? ⟨gb184, 2, none⟩ = some (.int .i64 ((rd_T75 l0 x10_1).f2)) := (blk_cell BK184.out 2).trans rfl
         have hfz30_0 := blk_frozen BK184.out 0
         have hfz30_1 := blk_frozen BK184.out 1
         have hfz30_2 := blk_frozen BK184.out 2
         go_wp2_with (first | ((with_reducible refine gate_callee (f := 66) rfl ?_); refine goesL_ (some 25) rfl rfl Tryd.func66 u20_ rfl #[.string ((rd_T75 l0 x10_1).f0)] rfl u1_ ?_; (with_reducible refine (impl_NameOk.calls kj6 ((rd_T75 l0 x10_1).f0) false _ A13.out).mono ?_); rintro e w' ⟨rfl, ⟨nd, rfl⟩⟩; refine ⟨_, rfl, ?_⟩))
         go_ret
         exact ⟨u4_, u22_⟩
     ·rw [if_neg c6] at H
      exact absurd H u43_
    ·rw [if_neg c5] at H
     exact absurd H u43_
   ·rw [if_neg c4] at H
    have c4b0 : decide (x10_1 < (l0.length : Int)) = false := decide_eq_false c4
    clear c4
    replace H := Option.bind_eq_some_iff.mp H
    obtain ⟨t182, A310, H⟩ := H
    replace H : (some t182) = some r := H
    have A31 := Aside0.mk A310
    clear A310
    obtain rfl := Option.some.inj H
    go_wp2_with (first | ((with_reducible refine gate_callee (f := 50) rfl ?_); refine goesL_ (some 51) rfl rfl Tryd.func50 u20_ rfl #[.int .i64 (l0.length : Int), .int .i64 1, .int .i64 4] rfl u1_ ?_; (with_reducible refine (impl_within.calls (l0.length : Int) 1 4 t182 _ A31.out).mono ?_); rintro e w' ⟨rfl, ⟨nd, rfl⟩⟩; refine ⟨_, rfl, ?_⟩))
    go_ret
    exact ⟨u4_, u0_⟩

/-! ### strconv_Itoa: function 48 -/
def strconv_Itoa.f (a0 : Int) : Option ByteArray := if -9223372036854775808 ≤ a0 ∧ a0 ≤ 9223372036854775807 then some ⟨(Lib.itoa a0).toArray⟩ else none
theorem strconv_Itoa.below (w : World) (k : Nat) (os : Array Obj) : Below w.heap.size w (Go.Sort.grow (w.drewN k) os) :=
 ⟨rfl, rfl, rfl, by rw [Go.Sort.size_grow]; exact Nat.le_add_right _ _, fun i hi => Go.Sort.heap_grow_old (w.drewN k) os hi⟩
theorem strconv_Itoa.calls (a0 : Int) (r : ByteArray) (w : World) (hG : StopsIn w) (h : strconv_Itoa.f a0 = some r) :
  Calls Tryd.prog 48 #[.int .i64 a0] w fun e w' => e = .returned (.string r) ∧ Below w.heap.size w w' := by
 unfold strconv_Itoa.f at h
 by_cases hs : -9223372036854775808 ≤ a0 ∧ a0 ≤ 9223372036854775807
 case neg => rw [if_neg hs] at h; exact absurd h u43_
 rw [if_pos hs] at h
 have h := Option.some.inj h
 subst h
 refine (Go.Proofs.Tryd.strconv_Itoa a0 hs.1 hs.2 w hG.tab).mono ?_
 rintro e w' ⟨rfl, k, os, rfl⟩
 exact ⟨rfl, strconv_Itoa.below w k os⟩

/-! ### strings_Join: function 49 -/
def strings_Join.f (l0 : List ByteArray) (a1 : ByteArray) : Option ByteArray := if l0.length ≤ 140737488355328 ∧ (Lib.join (l0.map (·.data.toList)) a1.data.toList).length ≤ 140737488355328 then some ⟨(Lib.join (l0.map (·.data.toList)) a1.data.toList).toArray⟩ else none
theorem strings_Join.calls (A0 : Option Addr) (c0 : Nat) (l0 : List ByteArray) (a1 : ByteArray) (r : ByteArray) (w : World) (hr0 : Kd.C Kd.string w A0 l0.length l0) (hc0 : l0.length ≤ c0) (h : strings_Join.f l0 a1 = some r) :
  Calls Tryd.prog 49 #[.slice A0 l0.length c0, .string a1] w fun e w' => e = .returned (.string r) ∧ Below w.heap.size w w' := by
 unfold strings_Join.f at h
 by_cases hs : l0.length ≤ 140737488355328 ∧ (Lib.join (l0.map (·.data.toList)) a1.data.toList).length ≤ 140737488355328
 case neg => rw [if_neg hs] at h; exact absurd h u43_
 rw [if_pos hs] at h
 have h := Option.some.inj h
 subst h
 cases l0 with
 | nil =>
  refine (Go.Proofs.Tryd.strings_Join_none A0 c0 a1 w).mono ?_
  rintro e w' ⟨rfl, rfl⟩
  exact ⟨rfl, Below.refl _ _⟩
 | cons x l =>
  obtain ⟨ad, rfl, hc⟩ := hr0.2.2 u43_
  have hcell : ∀ (j : Nat) (y : ByteArray), (x :: l)[j]? = some y → w.cell? (ad.add j) = some (.string y) := by
   intro j y hy
   obtain ⟨c, _, hk, h1⟩ := hc j y hy
   have hk' : c = [.string y] := hk
   have := h1 0 (.string y) (by rw [hk']; rfl)
   rw [show j * Kd.string.sz + 0 = j from Nat.mul_one j] at this
   exact this
  have h0 := hcell 0 x rfl
  obtain ⟨bk, o, sp⟩ := ad
  have hsp : sp = none := by
   unfold World.cell? Addr.add at h0
   cases sp with
   | none => rfl
   | some s =>
    exfalso
    split at h0
    ·simp at h0
    ·cases h0
  subst hsp
  have hlt : bk < w.heap.size := World.block_lt_of_cell? w _ h0
  refine (Go.Proofs.Tryd.strings_Join bk o c0 (x :: l) a1 w (fun j y hy => by have h9 := hcell j y hy; unfold Addr.add at h9; by_cases e9 : j = 0; (subst e9; exact h9); (rw [if_neg e9] at h9; exact h9)) hlt hs.1 hc0 hs.2).mono ?_
  rintro e w' ⟨rfl, hb⟩
  exact ⟨rfl, hb⟩

end Go.Proofs.YtelcdhjdlgedeaaDoor.PFnFields
