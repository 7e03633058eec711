/- Contracts of Go functions that the law FnExactDocOk reaches: each is told as a plain Lean function, with the walk that shows it; no condition beyond what each states. Written by a program of this session round the kit's printer. -/
import Derived.Test.YtelcdhjdlgedeaaDoorQPFnExactDocOkx0
import Derived.Test.YtelcdhjdlgedeaaDoorQPFnExactDocOkx1
namespace Go.Proofs.YtelcdhjdlgedeaaDoor.PFnExactDocOk
open Go.RowKit Go.Proofs.YtelcdhjdlgedeaaDoorW.PrintWords Go.Proofs.YtelcdhjdlgedeaaDoorW.PrintLast Go.Proofs.YtelcdhjdlgedeaaDoorW.PrintMore
attribute [local go_sem] run_str_geq run_str_leq max2_int min2_int max_two min_two max_three min_three max_four min_four   -- for this text's walks alone
set_option linter.unusedVariables false
set_option linter.unusedSimpArgs false

/-! ### impl_FieldsOk: function 28 -/
mutual
def impl_FieldsOk.l0 : Nat → List (S75) → List ByteArray → List (S75) → Int → Int → Option (Bool)
 | 0, _, _, _, _, _ => none
 | k + 1, x0, x3, x8, x9, x10 => if x10 < x9 then (if 0 ≤ x10 then (if x10 < (x8.length : Int) then (if ((rd_T75 x8 x10).f1) = 1 then ((impl_within.f ((rd_T75 x8 x10).f2) 1 9).bind fun t117 => (impl_FieldsOk.j1 k x0 x3 t117 x8 x9 x10 ((rd_T75 x8 x10).f0) ((rd_T75 x8 x10).f1) ((rd_T75 x8 x10).f2))) else (impl_FieldsOk.j1 k x0 x3 (((rd_T75 x8 x10).f2) == 0) x8 x9 x10 ((rd_T75 x8 x10).f0) ((rd_T75 x8 x10).f1) ((rd_T75 x8 x10).f2))) else (none)) else (none)) else ((impl_within.f (x0.length : Int) 1 4).bind fun t114 => (some t114))
def impl_FieldsOk.j1 : Nat → List (S75) → List ByteArray → Bool → List (S75) → Int → Int → ByteArray → Int → Int → Option (Bool)
 | 0, _, _, _, _, _, _, _, _, _ => none
 | k + 1, x0, x3, x6, x8, x9, x10, x117000, x117001, x117002 => (impl_NameOk.f k x117000).bind fun t118 => (if t118 = true then ((slices_Contains_string_string.f k x3 x117000).bind fun t119 => (if t119 = true then (some false) else ((impl_within.f x117001 1 3).bind fun t120 => (if t120 = true then (if x6 = true then (if x3.length < 8796093022208 then (impl_FieldsOk.l0 k x0 (x3 ++ [x117000]) x8 x9 (wrap64 (x10 + 1))) else (none)) else (some false)) else (some false))))) else (some false))
end
def impl_FieldsOk.f (k : Nat) (l0 : List (S75)) : Option (Bool) := impl_FieldsOk.l0 k l0 (([] : List ByteArray)) l0 (l0.length : Int) 0
theorem impl_FieldsOk.mono_l : ∀ k, (∀ y0 y1 y2 y3 y4, LeO (impl_FieldsOk.l0 k y0 y1 y2 y3 y4) (impl_FieldsOk.l0 (k + 1) y0 y1 y2 y3 y4)) ∧ (∀ y0 y1 y2 y3 y4 y5 y6 y7 y8, LeO (impl_FieldsOk.j1 k y0 y1 y2 y3 y4 y5 y6 y7 y8) (impl_FieldsOk.j1 (k + 1) y0 y1 y2 y3 y4 y5 y6 y7 y8))
 | 0 => ⟨fun _ _ _ _ _ r h => by simp [impl_FieldsOk.l0] at h, fun _ _ _ _ _ _ _ _ _ r h => by simp [impl_FieldsOk.j1] at h⟩
 | k + 1 => by
  obtain ⟨ih0, ih1⟩ := impl_FieldsOk.mono_l k
  refine ⟨?_, ?_⟩
  ·intro y0 y1 y2 y3 y4
   unfold impl_FieldsOk.l0
   repeat' first
   | (with_reducible exact ih0 _ _ _ _ _)
   | (with_reducible exact ih1 _ _ _ _ _ _ _ _ _)
   | (with_reducible exact impl_NameOk.mono _ _)
   | (with_reducible exact slices_Contains_string_string.mono _ _ _)
   | (with_reducible exact LeO.refl _)
   | (with_reducible exact LeO.none _)
   | (with_reducible refine LeO.ite ?_ ?_)
   | (with_reducible refine LeO.bind ?_ (fun _ => ?_))
   | exact ih0 _ _ _ _ _
   | exact ih1 _ _ _ _ _ _ _ _ _
   | exact impl_NameOk.mono _ _
   | exact slices_Contains_string_string.mono _ _ _
   | exact LeO.none _
   | refine LeO.ite ?_ ?_
   | refine LeO.bind ?_ (fun _ => ?_)
  ·intro y0 y1 y2 y3 y4 y5 y6 y7 y8
   unfold impl_FieldsOk.j1
   repeat' first
   | (with_reducible exact ih0 _ _ _ _ _)
   | (with_reducible exact ih1 _ _ _ _ _ _ _ _ _)
   | (with_reducible exact impl_NameOk.mono _ _)
   | (with_reducible exact slices_Contains_string_string.mono _ _ _)
   | (with_reducible exact LeO.refl _)
   | (with_reducible exact LeO.none _)
   | (with_reducible refine LeO.ite ?_ ?_)
   | (with_reducible refine LeO.bind ?_ (fun _ => ?_))
   | exact ih0 _ _ _ _ _
   | exact ih1 _ _ _ _ _ _ _ _ _
   | exact impl_NameOk.mono _ _
   | exact slices_Contains_string_string.mono _ _ _
   | exact LeO.none _
   | refine LeO.ite ?_ ?_
   | refine LeO.bind ?_ (fun _ => ?_)
theorem impl_FieldsOk.mono : ∀ a0 k, LeO (impl_FieldsOk.f k a0) (impl_FieldsOk.f (k + 1) a0) := by
 intro a0 k
 obtain ⟨ih0, ih1⟩ := impl_FieldsOk.mono_l k
 unfold impl_FieldsOk.f
 repeat' first
   | (with_reducible exact ih0 _ _ _ _ _)
   | (with_reducible exact ih1 _ _ _ _ _ _ _ _ _)
   | (with_reducible exact impl_NameOk.mono _ _)
   | (with_reducible exact slices_Contains_string_string.mono _ _ _)
   | (with_reducible exact LeO.refl _)
   | (with_reducible exact LeO.none _)
   | (with_reducible refine LeO.ite ?_ ?_)
   | (with_reducible refine LeO.bind ?_ (fun _ => ?_))
   | exact ih0 _ _ _ _ _
   | exact ih1 _ _ _ _ _ _ _ _ _
   | exact impl_NameOk.mono _ _
   | exact slices_Contains_string_string.mono _ _ _
   | exact LeO.none _
   | refine LeO.ite ?_ ?_
   | refine LeO.bind ?_ (fun _ => ?_)
set_option maxHeartbeats 8000000 in
set_option maxRecDepth 100000 in
theorem impl_FieldsOk.calls (k : Nat) (A0 : Option Addr) (c0 : Nat) (l0 : List (S75)) (r : Bool) (w : World) (hr0 : Kd.C k75 w A0 l0.length l0) (hc0 : l0.length ≤ c0) (h : impl_FieldsOk.f k l0 = some r) :
  Calls Tryd.prog 28 #[.slice A0 l0.length c0] w fun e w' => e = .returned (.bool r) ∧ Below w.heap.size w w' := by
 have hu75 := Tryd.underlying75
 have HR0 := Aside0.mk hr0
 have HC0 := Aside0.mk hc0
 clear hr0 hc0
 have HB := Aside0.mk (Below.refl w.heap.size w)
 have H : (impl_FieldsOk.l0 k l0 (([] : List ByteArray)) l0 (l0.length : Int) 0) = some r := h
 clear h
 obtain ⟨y111, hy111⟩ : ∃ y_ : List ByteArray, y_ = (([] : List ByteArray)) := ⟨_, rfl⟩
 replace H : (impl_FieldsOk.l0 k l0 y111 l0 (l0.length : Int) 0) = some r := by first | (rw [hy111]; with_reducible exact H) | (have H2_ := (Option.bind_some _ _).symm.trans H; rw [hy111]; with_reducible exact H2_) | (have H2_ := (Option.bind_some _ _).symm.trans H; with_reducible exact H2_) | with_reducible exact H | (rw [hy111]; exact H) | exact H
 have Ny111 := Aside0.mk hy111
 clear hy111
 have H' := Aside0.mk H
 clear H
 go_enter Tryd.func28, Tryd.ntmps28
 go_wp2_with (first | ((with_reducible refine gate_dst (N := 7) rfl ?_); refine Kd.R_lit Kd.string _ 9 ?hg (N := 7) ?hd (xs := ([] : List ByteArray)) (inner := []) (ok := fun _ => True) (okp := fun _ => True) ?hr ?hp (fun _ hk => hk) trivial (Below.refl _ _) (Nat.le_refl _) u75_ ?_; (case hd => rfl); (case hg => rfl); (case hr => first | (go_simp; done) | (go_simp; rfl)); (case hp => exact (Reps.none _ _)); intro v112 w2 ho3 hb hg_ hnew_; clear hg_ hnew_; (first | rw [← Ny111.out] at ho3 | (simp only [Int.reduceToNat] at ho3; rw [← Ny111.out] at ho3)); have n0_ := Aside0.mk (Kd.R_lower ho3 (below_size u0_)); have n1_ := Aside0.mk (below_step u0_ hb); clear HB; have HO113 := n0_; have HB := n1_; clear n0_ n1_; clear hb ho3))
 go_loopg [3, 10] k (fun kq v3 v10 w' => ∃ (x3_1 : List ByteArray) (x10_1 : Int), v10 = .int .i64 x10_1 ∧ Aside0 (impl_FieldsOk.l0 kq l0 x3_1 l0 (l0.length : Int) x10_1 = some r) ∧ Aside0 (kq ≤ k) ∧ Aside0 (Kd.R Kd.string 9 w' w.heap.size (fun _ => True) v3 x3_1) ∧ Aside0 (Below w.heap.size w w'))
 case atStart => exact ⟨(y111), (0), u16_, H', ⟨Nat.le_refl _⟩, ⟨by (with_reducible repeat (first | apply Kd.R_alloc | apply Kd.R_drewN | apply Kd.R_drew)); exact HO113.out⟩, ⟨u0_⟩⟩
 case round =>
  clear H'
  try clear c2
  try clear p2
  obtain ⟨x3_1, x10_1, rfl, HA, HK1, HO_3, HB⟩ := hrel
  cases gk with
  | zero => exact absurd HA.out (by simp [impl_FieldsOk.l0])
  | succ k1 =>
   have H := HA.out
   clear HA
   simp only [impl_FieldsOk.l0] at H
   by_cases c4 : x10_1 < (l0.length : Int)
   ·rw [if_pos c4] at H
    have c4b0 : decide (x10_1 < (l0.length : Int)) = true := decide_eq_true c4
    clear c4
    by_cases c5 : 0 ≤ x10_1
    ·rw [if_pos c5] at H
     have c5b0 : decide (0 ≤ x10_1) = true := decide_eq_true c5
     clear c5
     by_cases c6 : x10_1 < (l0.length : Int)
     ·rw [if_pos c6] at H
      have c6b0 : decide (x10_1 < (l0.length : Int)) = true := decide_eq_true c6
      clear c6
      have HC7 := Aside0.mk H
      clear H
      have p115 : 0 ≤ (x10_1 : Int) := of_decide_eq_true u2_
      have q115 : x10_1 < (l0.length : Int) := of_decide_eq_true u2_
      obtain ⟨ad115, e115, hx115_0, hx115_1, hx115_2⟩ := at_T75 HR0.out x10_1 p115 q115
      cases e115
      replace hx115_0 := (HB.out.cell (World.block_lt_of_cell? w _ hx115_0)).trans hx115_0
      replace hx115_1 := (HB.out.cell (World.block_lt_of_cell? w _ hx115_1)).trans hx115_1
      replace hx115_2 := (HB.out.cell (World.block_lt_of_cell? w _ hx115_2)).trans hx115_2
      replace p115 := eq_true p115
      replace q115 := eq_true q115
      go_upto_if 19 with (first | ((with_reducible refine gate_dst (N := 5) rfl ?_); refine box_event ?hg (N := 5) ?hd (cs := #[.string (⟨#[]⟩ : ByteArray), .int .i64 0, .int .i64 0]) (t := 75) ?hr ?_; (case hd => rfl); (case hg => rfl); (case hr => first | (go_simp; done) | (go_simp; rfl)); intro gb116 hg w8 hbox hb; have n0_ := Aside0.mk (Kd.R_below u42_ hb); have n1_ := Aside0.mk (below_step u0_ hb); have n2_ := Aside0.mk (hbox); have n3_ := Aside0.mk ((by rw [hg]; exact (below_size u0_) : w.heap.size ≤ gb116)); have n4_ := n3_; clear HO_3; clear HB; have HO_3 := n0_; have HB := n1_; have BK116 := n2_; have GW116 := n3_; have GE116 := n4_; clear n0_ n1_ n2_ n3_ n4_; clear hb hbox hg; have hcz9_0 : w8.cell? ⟨gb116, 0, none⟩ = some (.string (⟨#[]⟩ : ByteArray)) := (blk_cell BK116.out 0).trans rfl; have hcz9_1 : w8.cell? ⟨gb116, 1, none⟩ = some (.int .i64 0) := (blk_cell BK116.out 1).trans rfl; have hcz9_2 : w8.cell? ⟨gb116, 2, none⟩ = some (.int .i64 0) := (blk_cell BK116.out 2).trans rfl; have hfz9_0 := blk_frozen BK116.out 0; have hfz9_1 := blk_frozen BK116.out 1; have hfz9_2 := blk_frozen BK116.out 2))
      (try simp only [Act.put, List.setIfInBounds_toArray, List.set_cons_zero, List.set_cons_succ])
      go_cut [6] (fun v6 wc => ∃ (kq : Nat) (x6_6 : Bool), v6 = .bool x6_6 ∧ Aside0 (impl_FieldsOk.j1 kq l0 x3_1 x6_6 l0 (l0.length : Int) x10_1 ((rd_T75 l0 x10_1).f0) ((rd_T75 l0 x10_1).f1) ((rd_T75 l0 x10_1).f2) = some r) ∧ Aside0 (kq ≤ k1) ∧ Aside0 (Kd.R Kd.string 9 wc w.heap.size (fun _ => True) u3 x3_1) ∧ Aside0 (wc.heap[gb116]? = some (.cells #[.string ((rd_T75 l0 x10_1).f0), .int .i64 ((rd_T75 l0 x10_1).f1), .int .i64 ((rd_T75 l0 x10_1).f2)] 75 (0, 0))) ∧ Aside0 (Below w.heap.size w wc))
      case first =>
       have H := HC7.out
       clear HC7
       by_cases c10 : ((rd_T75 l0 x10_1).f1) = 1
       ·rw [if_pos c10] at H
        have c10b0 : (((rd_T75 l0 x10_1).f1) == 1) = true := beq_iff_eq.mpr c10
        have c10b1 : (((rd_T75 l0 x10_1).f1) != 1) = false := bne_eq_false_iff_eq.mpr c10
        clear c10
        (first | rw [c10b0] | (simp only [i64_w, i32_w]; rw [c10b0]) | skip)
        replace H := Option.bind_eq_some_iff.mp H
        obtain ⟨t117, A110, H⟩ := H
        replace H : (impl_FieldsOk.j1 k1 l0 x3_1 t117 l0 (l0.length : Int) x10_1 ((rd_T75 l0 x10_1).f0) ((rd_T75 l0 x10_1).f1) ((rd_T75 l0 x10_1).f2)) = some r := H
        have A11 := Aside0.mk A110
        clear A110
        have H' := Aside0.mk H
        clear H
        have hcz12_0 : w8.cell? ⟨gb116, 0, none⟩ = some (.string (⟨#[]⟩ : ByteArray)) := (blk_cell BK116.out 0).trans rfl
        have hcz12_1 : w8.cell? ⟨gb116, 1, none⟩ = some (.int .i64 0) := (blk_cell BK116.out 1).trans rfl
        have hcz12_2 : w8.cell? ⟨gb116, 2, none⟩ = some (.int .i64 0) := (blk_cell BK116.out 2).trans rfl
        have hfz12_0 := blk_frozen BK116.out 0
        have hfz12_1 := blk_frozen BK116.out 1
        have hfz12_2 := blk_frozen BK116.out 2
        go_wp2_with (first | ((with_reducible refine gate_callee (f := 50) rfl ?_); refine goesL_ (some 22) rfl rfl Tryd.func50 u7_ rfl #[.int .i64 ((rd_T75 l0 x10_1).f2), .int .i64 1, .int .i64 9] rfl u1_ ?_; (with_reducible refine (impl_within.calls ((rd_T75 l0 x10_1).f2) 1 9 t117 _ A11.out).mono ?_); rintro e w' ⟨rfl, ⟨nd, rfl⟩⟩; refine ⟨_, rfl, ?_⟩))
        go_meet
        case rel => exact ⟨_, (t117), u16_, H', ⟨u83_⟩, ⟨u88_⟩, ⟨u47_⟩, ⟨u32_⟩⟩
       ·rw [if_neg c10] at H
        have c10b0 : (((rd_T75 l0 x10_1).f1) == 1) = false := beq_eq_false_iff_ne.mpr c10
        have c10b1 : (((rd_T75 l0 x10_1).f1) != 1) = true := bne_iff_ne.mpr c10
        (first | rw [c10b0] | (simp only [i64_w, i32_w]; rw [c10b0]) | skip)
        have H' := Aside0.mk H
        clear H
        go_wp2
        go_meet
        case rel => exact ⟨_, ((((rd_T75 l0 x10_1).f2) == 0)), u16_, H', ⟨u83_⟩, ⟨u88_⟩, ⟨u47_⟩, ⟨u32_⟩⟩
      case rest =>
       clear HC7
       try clear c1
       try clear p1
       try clear q1
       try clear hx1
       try clear c2
       try clear p2
       try clear c4
       try clear c4b0
       try clear c5
       try clear c5b0
       try clear c6
       try clear c6b0
       try clear c10
       try clear c10b0
       try clear c10b1
       try clear p11
       try clear q11
       try clear hx11
       try clear hcz12_0
       try clear hcz12_1
       try clear hcz12_2
       try clear hcz9_0
       try clear hcz9_1
       try clear hcz9_2
       try clear hfz12_0
       try clear hfz12_1
       try clear hfz12_2
       try clear hfz9_0
       try clear hfz9_1
       try clear hfz9_2
       try clear hx115_0
       try clear hx115_1
       try clear hx115_2
       try clear p115
       try clear p2
       try clear q115
       obtain ⟨kq, x6_6, rfl, HA, HJ6, HO_3, BK116, HB⟩ := hcut
       cases kq with
       | zero => exact absurd HA.out (by simp [impl_FieldsOk.j1])
       | succ kj6 =>
        have H := HA.out
        clear HA
        simp only [impl_FieldsOk.j1] at H
        replace H := Option.bind_eq_some_iff.mp H
        obtain ⟨t118, A130, H⟩ := H
        replace H : (if t118 = true then ((slices_Contains_string_string.f kj6 x3_1 ((rd_T75 l0 x10_1).f0)).bind fun t119 => (if t119 = true then (some false) else ((impl_within.f ((rd_T75 l0 x10_1).f1) 1 3).bind fun t120 => (if t120 = true then (if x6_6 = true then (if x3_1.length < 8796093022208 then (impl_FieldsOk.l0 kj6 l0 (x3_1 ++ [((rd_T75 l0 x10_1).f0)]) l0 (l0.length : Int) (wrap64 (x10_1 + 1))) else (none)) else (some false)) else (some false))))) else (some false)) = some r := H
        have A13 := Aside0.mk A130
        clear A130
        by_cases c14 : t118 = true
        ·subst c14
         have H1 : ((slices_Contains_string_string.f kj6 x3_1 ((rd_T75 l0 x10_1).f0)).bind fun t119 => (if t119 = true then (some false) else ((impl_within.f ((rd_T75 l0 x10_1).f1) 1 3).bind fun t120 => (if t120 = true then (if x6_6 = true then (if x3_1.length < 8796093022208 then (impl_FieldsOk.l0 kj6 l0 (x3_1 ++ [((rd_T75 l0 x10_1).f0)]) l0 (l0.length : Int) (wrap64 (x10_1 + 1))) else (none)) else (some false)) else (some false))))) = some r := by rw [if_pos rfl] at H; exact H
         clear H
         have H := H1
         clear H1
         replace H := Option.bind_eq_some_iff.mp H
         obtain ⟨t119, A150, H⟩ := H
         replace H : (if t119 = true then (some false) else ((impl_within.f ((rd_T75 l0 x10_1).f1) 1 3).bind fun t120 => (if t120 = true then (if x6_6 = true then (if x3_1.length < 8796093022208 then (impl_FieldsOk.l0 kj6 l0 (x3_1 ++ [((rd_T75 l0 x10_1).f0)]) l0 (l0.length : Int) (wrap64 (x10_1 + 1))) else (none)) else (some false)) else (some false)))) = some r := H
         have A15 := Aside0.mk A150
         clear A150
         by_cases c16 : t119 = true
         ·subst c16
          have H1 : (some false) = some r := by rw [if_pos rfl] at H; exact H
          clear H
          have H := H1
          clear H1
          obtain rfl := Option.some.inj H
          have hcz17_0 : wc.cell? ⟨gb116, 0, none⟩ = some (.string ((rd_T75 l0 x10_1).f0)) := (blk_cell BK116.out 0).trans rfl
          have hcz17_1 : wc.cell? ⟨gb116, 1, none⟩ = some (.int .i64 ((rd_T75 l0 x10_1).f1)) := (blk_cell BK116.out 1).trans rfl
          have hcz17_2 : wc.cell? ⟨gb116, 2, none⟩ = some (.int .i64 ((rd_T75 l0 x10_1).f2)) := (blk_cell BK116.out 2).trans rfl
          have hfz17_0 := blk_frozen BK116.out 0
          have hfz17_1 := blk_frozen BK116.out 1
          have hfz17_2 := blk_frozen BK116.out 2
          go_wp2_with (first | ((with_reducible refine gate_callee (f := 66) rfl ?_); refine goesL_ (some 25) rfl rfl Tryd.func66 u7_ rfl #[.string ((rd_T75 l0 x10_1).f0)] rfl u1_ ?_; (with_reducible refine (impl_NameOk.calls kj6 ((rd_T75 l0 x10_1).f0) true _ A13.out).mono ?_); rintro e w' ⟨rfl, ⟨nd, rfl⟩⟩; refine ⟨_, rfl, ?_⟩; obtain ⟨Ao18, co18, eo18⟩ := Kd.R_slice HO_3.out; subst eo18) | (go_at_call 67; (with_reducible refine (slices_Contains_string_string.calls kj6 _ _ x3_1 ((rd_T75 l0 x10_1).f0) true _ ?side1 ?side2 A15.out).mono ?_); (case side1 => repeat (first | exact (Kd.R_reads' HO_3.out).2.2 | (with_reducible refine Kd.C_alloc ?_ _) | (with_reducible refine Kd.C_drewN ?_ _) | (with_reducible refine Kd.C_drew ?_))); (case side2 => exact (Kd.R_reads' HO_3.out).2.1); rintro e w' ⟨rfl, ⟨nd, rfl⟩⟩))
          go_ret
          exact ⟨u3_, u32_⟩
         ·replace c16 := Bool.eq_false_iff.mpr c16
          subst c16
          have H1 : ((impl_within.f ((rd_T75 l0 x10_1).f1) 1 3).bind fun t120 => (if t120 = true then (if x6_6 = true then (if x3_1.length < 8796093022208 then (impl_FieldsOk.l0 kj6 l0 (x3_1 ++ [((rd_T75 l0 x10_1).f0)]) l0 (l0.length : Int) (wrap64 (x10_1 + 1))) else (none)) else (some false)) else (some false))) = some r := by rw [if_neg (show ¬ (false = true) by decide)] at H; exact H
          clear H
          have H := H1
          clear H1
          replace H := Option.bind_eq_some_iff.mp H
          obtain ⟨t120, A190, H⟩ := H
          replace H : (if t120 = true then (if x6_6 = true then (if x3_1.length < 8796093022208 then (impl_FieldsOk.l0 kj6 l0 (x3_1 ++ [((rd_T75 l0 x10_1).f0)]) l0 (l0.length : Int) (wrap64 (x10_1 + 1))) else (none)) else (some false)) else (some false)) = some r := H
          have A19 := Aside0.mk A190
          clear A190
          by_cases c20 : t120 = true
          ·subst c20
           have H1 : (if x6_6 = true then (if x3_1.length < 8796093022208 then (impl_FieldsOk.l0 kj6 l0 (x3_1 ++ [((rd_T75 l0 x10_1).f0)]) l0 (l0.length : Int) (wrap64 (x10_1 + 1))) else (none)) else (some false)) = some r := by rw [if_pos rfl] at H; exact H
           clear H
           have H := H1
           clear H1
           by_cases c21 : x6_6 = true
           ·subst c21
            have H1 : (if x3_1.length < 8796093022208 then (impl_FieldsOk.l0 kj6 l0 (x3_1 ++ [((rd_T75 l0 x10_1).f0)]) l0 (l0.length : Int) (wrap64 (x10_1 + 1))) else (none)) = some r := by rw [if_pos rfl] at H; exact H
            clear H
            have H := H1
            clear H1
            by_cases c22 : x3_1.length < 8796093022208
            ·rw [if_pos c22] at H
             have LMc22 := Aside0.mk c22
             clear c22
             obtain ⟨y121, hy121⟩ : ∃ y_ : List ByteArray, y_ = (x3_1 ++ [((rd_T75 l0 x10_1).f0)]) := ⟨_, rfl⟩
             replace H : (impl_FieldsOk.l0 kj6 l0 y121 l0 (l0.length : Int) (wrap64 (x10_1 + 1))) = some r := by first | (rw [hy121]; with_reducible exact H) | (have H2_ := (Option.bind_some _ _).symm.trans H; rw [hy121]; with_reducible exact H2_) | (have H2_ := (Option.bind_some _ _).symm.trans H; with_reducible exact H2_) | with_reducible exact H | (rw [hy121]; exact H) | exact H
             have Ny121 := Aside0.mk hy121
             clear hy121
             have H' := Aside0.mk H
             clear H
             have hcz23_0 : wc.cell? ⟨gb116, 0, none⟩ = some (.string ((rd_T75 l0 x10_1).f0)) := (blk_cell BK116.out 0).trans rfl
             have hcz23_1 : wc.cell? ⟨gb116, 1, none⟩ = some (.int .i64 ((rd_T75 l0 x10_1).f1)) := (blk_cell BK116.out 1).trans rfl
             have hcz23_2 : wc.cell? ⟨gb116, 2, none⟩ = some (.int .i64 ((rd_T75 l0 x10_1).f2)) := (blk_cell BK116.out 2).trans rfl
             have hfz23_0 := blk_frozen BK116.out 0
             have hfz23_1 := blk_frozen BK116.out 1
             have hfz23_2 := blk_frozen BK116.out 2
             go_wp2_with (first | ((with_reducible refine gate_callee (f := 66) rfl ?_); refine goesL_ (some 25) rfl rfl Tryd.func66 u7_ rfl #[.string ((rd_T75 l0 x10_1).f0)] rfl u1_ ?_; (with_reducible refine (impl_NameOk.calls kj6 ((rd_T75 l0 x10_1).f0) true _ A13.out).mono ?_); rintro e w' ⟨rfl, ⟨nd, rfl⟩⟩; refine ⟨_, rfl, ?_⟩; obtain ⟨Ao24, co24, eo24⟩ := Kd.R_slice HO_3.out; subst eo24) | (go_at_call 67; (with_reducible refine (slices_Contains_string_string.calls kj6 _ _ x3_1 ((rd_T75 l0 x10_1).f0) false _ ?side1 ?side2 A15.out).mono ?_); (case side1 => repeat (first | exact (Kd.R_reads' HO_3.out).2.2 | (with_reducible refine Kd.C_alloc ?_ _) | (with_reducible refine Kd.C_drewN ?_ _) | (with_reducible refine Kd.C_drew ?_))); (case side2 => exact (Kd.R_reads' HO_3.out).2.1); rintro e w' ⟨rfl, ⟨nd, rfl⟩⟩) | (go_at_call 50; (with_reducible refine (impl_within.calls ((rd_T75 l0 x10_1).f1) 1 3 true _ A19.out).mono ?_); rintro e w' ⟨rfl, ⟨nd, rfl⟩⟩) | ((with_reducible refine gate_builtin (b := .append) (xs := #[.tmp 43, .tmp 46]) rfl ?_); at_builtin; refine Kd.R_append Kd.string (w0 := w) w.heap.size rfl (.tmp 43) (.tmp 46) 61 9 (.string ⟨#[]⟩) 16 rfl Tryd.underlying61 info9 rfl u64_ (by omega) (.slice Ao24 x3_1.length co24) x3_1 ((rd_T75 l0 x10_1).f0) [.string ((rd_T75 l0 x10_1).f0)] (fun _ => True) (fun _ => False) rfl rfl ?aP (fun _ hk => hk.elim) ?aF ?aO ?aB ?aS ?aL ?_; (case aP => exact rfl); (case aB => exact u32_); (case aF => exact (fun _ _ => trivial)); (case aO => exact u42_); (case aS => exact (below_size u32_)); (case aL => have := LMc22.out; omega); intro v122 w25 ho hb hg hat; rw [← Ny121.out] at ho; have n0_ := Aside0.mk (blk_grown (g := gb116) (o := .cells #[.string ((rd_T75 l0 x10_1).f0), .int .i64 ((rd_T75 l0 x10_1).f1), .int .i64 ((rd_T75 l0 x10_1).f2)] 75 (0, 0)) (by (with_reducible repeat (first | refine blk_drewN ?_ _ | refine blk_drew ?_ | refine blk_alloc ?_ _)); exact BK116.out) hg (Kd.R_ne HO_3.out BK116.out u64_)); have n1_ := Aside0.mk (hb); have n2_ := Aside0.mk (ho); clear BK116; clear HB; clear HO_3; have BK116 := n0_; have HB := n1_; have HO123 := n2_; clear n0_ n1_ n2_; clear ho hb hg hat))
             go_roundg kj6
             case measure => have := HK1.out; have := HJ6.out; omega
             case rel => exact ⟨(y121), (wrap64 (x10_1 + 1)), u16_, H', ⟨by have := HK1.out; have := HJ6.out; omega⟩, ⟨by (with_reducible repeat (first | apply Kd.R_alloc | apply Kd.R_drewN | apply Kd.R_drew)); exact HO123.out⟩, ⟨u32_⟩⟩
            ·rw [if_neg c22] at H
             exact absurd H u75_
           ·replace c21 := Bool.eq_false_iff.mpr c21
            subst c21
            have H1 : (some false) = some r := by rw [if_neg (show ¬ (false = true) by decide)] at H; exact H
            clear H
            have H := H1
            clear H1
            obtain rfl := Option.some.inj H
            have hcz26_0 : wc.cell? ⟨gb116, 0, none⟩ = some (.string ((rd_T75 l0 x10_1).f0)) := (blk_cell BK116.out 0).trans rfl
            have hcz26_1 : wc.cell? ⟨gb116, 1, none⟩ = some (.int .i64 ((rd_T75 l0 x10_1).f1)) := (blk_cell BK116.out 1).trans rfl
            have hcz26_2 : wc.cell? ⟨gb116, 2, none⟩ = some (.int .i64 ((rd_T75 l0 x10_1).f2)) := (blk_cell BK116.out 2).trans rfl
            have hfz26_0 := blk_frozen BK116.out 0
            have hfz26_1 := blk_frozen BK116.out 1
            have hfz26_2 := blk_frozen BK116.out 2
            go_wp2_with (first | ((with_reducible refine gate_callee (f := 66) rfl ?_); refine goesL_ (some 25) rfl rfl Tryd.func66 u7_ rfl #[.string ((rd_T75 l0 x10_1).f0)] rfl u1_ ?_; (with_reducible refine (impl_NameOk.calls kj6 ((rd_T75 l0 x10_1).f0) true _ A13.out).mono ?_); rintro e w' ⟨rfl, ⟨nd, rfl⟩⟩; refine ⟨_, rfl, ?_⟩; obtain ⟨Ao27, co27, eo27⟩ := Kd.R_slice HO_3.out; subst eo27) | (go_at_call 67; (with_reducible refine (slices_Contains_string_string.calls kj6 _ _ x3_1 ((rd_T75 l0 x10_1).f0) false _ ?side1 ?side2 A15.out).mono ?_); (case side1 => repeat (first | exact (Kd.R_reads' HO_3.out).2.2 | (with_reducible refine Kd.C_alloc ?_ _) | (with_reducible refine Kd.C_drewN ?_ _) | (with_reducible refine Kd.C_drew ?_))); (case side2 => exact (Kd.R_reads' HO_3.out).2.1); rintro e w' ⟨rfl, ⟨nd, rfl⟩⟩) | (go_at_call 50; (with_reducible refine (impl_within.calls ((rd_T75 l0 x10_1).f1) 1 3 true _ A19.out).mono ?_); rintro e w' ⟨rfl, ⟨nd, rfl⟩⟩))
            go_ret
            exact ⟨u3_, u32_⟩
          ·replace c20 := Bool.eq_false_iff.mpr c20
           subst c20
           have H1 : (some false) = some r := by rw [if_neg (show ¬ (false = true) by decide)] at H; exact H
           clear H
           have H := H1
           clear H1
           obtain rfl := Option.some.inj H
           have hcz28_0 : wc.cell? ⟨gb116, 0, none⟩ = some (.string ((rd_T75 l0 x10_1).f0)) := (blk_cell BK116.out 0).trans rfl
           have hcz28_1 : wc.cell? ⟨gb116, 1, none⟩ = some (.int .i64 ((rd_T75 l0 x10_1).f1)) := (blk_cell BK116.out 1).trans rfl
           have hcz28_2 : wc.cell? ⟨gb116, 2, none⟩ = some (.int .i64 ((rd_T75 l0 x10_1).f2)) := (blk_cell BK116.out 2).trans rfl
           have hfz28_0 := blk_frozen BK116.out 0
           have hfz28_1 := blk_frozen BK116.out 1
           have hfz28_2 := blk_frozen BK116.out 2
           go_wp2_with (first | ((with_reducible refine gate_callee (f := 66) rfl ?_); refine goesL_ (some 25) rfl rfl Tryd.func66 u7_ rfl #[.string ((rd_T75 l0 x10_1).f0)] rfl u1_ ?_; (with_reducible refine (impl_NameOk.calls kj6 ((rd_T75 l0 x10_1).f0) true _ A13.out).mono ?_); rintro e w' ⟨rfl, ⟨nd, rfl⟩⟩; refine ⟨_, rfl, ?_⟩; obtain ⟨Ao29, co29, eo29⟩ := Kd.R_slice HO_3.out; subst eo29) | (go_at_call 67; (with_reducible refine (slices_Contains_string_string.calls kj6 _ _ x3_1 ((rd_T75 l0 x10_1).f0) false _ ?side1 ?side2 A15.out).mono ?_); (case side1 => repeat (first | exact (Kd.R_reads' HO_3.out).2.2 | (with_reducible refine Kd.C_alloc ?_ _) | (with_reducible refine Kd.C_drewN ?_ _) | (with_reducible refine Kd.C_drew ?_))); (case side2 => exact (Kd.R_reads' HO_3.out).2.1); rintro e w' ⟨rfl, ⟨nd, rfl⟩⟩) | (go_at_call 50; (with_reducible refine (impl_within.calls ((rd_T75 l0 x10_1).f1) 1 3 false _ A19.out).mono ?_); rintro e w' ⟨rfl, ⟨nd, rfl⟩⟩))
           go_ret
           exact ⟨u3_, u32_⟩
        ·replace c14 := Bool.eq_false_iff.mpr c14
         subst c14
         have H1 : (some false) = some r := by rw [if_neg (show ¬ (false = true) by decide)] at H; exact H
         clear H
         have H := H1
         clear H1
         obtain rfl := Option.some.inj H
         have hcz30_0 : wc.cell? ⟨gb116, 0, none⟩ = some (.string ((rd_T75 l0 x10_1).f0)) := (blk_cell BK116.out 0).trans rfl
         have hcz30_1 : wc.cell? ⟨gb116, 1, none⟩ = some (.int .i64 ((rd_T75 l0 x10_1).f1)) := (blk_cell BK116.out 1).trans rfl
         have hcz30_2 : wc.cell? ⟨gb116, 2, none⟩ = some (.int .i64 ((rd_T75 l0 x10_1).f2)) := (blk_cell BK116.out 2).trans rfl
         have hfz30_0 := blk_frozen BK116.out 0
         have hfz30_1 := blk_frozen BK116.out 1
         have hfz30_2 := blk_frozen BK116.out 2
         go_wp2_with (first | ((with_reducible refine gate_callee (f := 66) rfl ?_); refine goesL_ (some 25) rfl rfl Tryd.func66 u7_ rfl #[.string ((rd_T75 l0 x10_1).f0)] rfl u1_ ?_; (with_reducible refine (impl_NameOk.calls kj6 ((rd_T75 l0 x10_1).f0) false _ A13.out).mono ?_); rintro e w' ⟨rfl, ⟨nd, rfl⟩⟩; refine ⟨_, rfl, ?_⟩))
         go_ret
         exact ⟨u3_, u32_⟩
     ·rw [if_neg c6] at H
      exact absurd H u75_
    ·rw [if_neg c5] at H
     exact absurd H u75_
   ·rw [if_neg c4] at H
    have c4b0 : decide (x10_1 < (l0.length : Int)) = false := decide_eq_false c4
    clear c4
    replace H := Option.bind_eq_some_iff.mp H
    obtain ⟨t114, A310, H⟩ := H
    replace H : (some t114) = some r := H
    have A31 := Aside0.mk A310
    clear A310
    obtain rfl := Option.some.inj H
    go_wp2_with (first | ((with_reducible refine gate_callee (f := 50) rfl ?_); refine goesL_ (some 51) rfl rfl Tryd.func50 u7_ rfl #[.int .i64 (l0.length : Int), .int .i64 1, .int .i64 4] rfl u1_ ?_; (with_reducible refine (impl_within.calls (l0.length : Int) 1 4 t114 _ A31.out).mono ?_); rintro e w' ⟨rfl, ⟨nd, rfl⟩⟩; refine ⟨_, rfl, ?_⟩))
    go_ret
    exact ⟨u3_, u0_⟩

/-! ### strconv_Itoa: function 48 -/
def strconv_Itoa.f (a0 : Int) : Option ByteArray := if -9223372036854775808 ≤ a0 ∧ a0 ≤ 9223372036854775807 then some ⟨(Lib.itoa a0).toArray⟩ else none
theorem strconv_Itoa.below (w : World) (k : Nat) (os : Array Obj) : Below w.heap.size w (Go.Sort.grow (w.drewN k) os) :=
 ⟨rfl, rfl, rfl, by rw [Go.Sort.size_grow]; exact Nat.le_add_right _ _, fun i hi => Go.Sort.heap_grow_old (w.drewN k) os hi⟩
theorem strconv_Itoa.calls (a0 : Int) (r : ByteArray) (w : World) (hG : StopsIn w) (h : strconv_Itoa.f a0 = some r) :
  Calls Tryd.prog 48 #[.int .i64 a0] w fun e w' => e = .returned (.string r) ∧ Below w.heap.size w w' := by
 unfold strconv_Itoa.f at h
 by_cases hs : -9223372036854775808 ≤ a0 ∧ a0 ≤ 9223372036854775807
 case neg => rw [if_neg hs] at h; exact absurd h u75_
 rw [if_pos hs] at h
 have h := Option.some.inj h
 subst h
 refine (Go.Proofs.Tryd.strconv_Itoa a0 hs.1 hs.2 w hG.tab).mono ?_
 rintro e w' ⟨rfl, k, os, rfl⟩
 exact ⟨rfl, strconv_Itoa.below w k os⟩

/-! ### impl_number: function 45 -/
/-- The number that a text is. -/
def impl_number.v (s : ByteArray) : Int × Bool := match Lib.atoiAll s.data.toList with
 | .ok n => if -999999999 ≤ n ∧ n ≤ 999999999 ∧ Lib.itoa n = s.data.toList then (n, true) else (0, false)
 | _ => (0, false)
def impl_number.f (a0 : ByteArray) : Option (Int × Bool) := if a0.size ≤ 140737488355328 then some (impl_number.v a0) else none
theorem impl_number.atoi_ok (s : ByteArray) (hs : s.size ≤ 140737488355328) (n : Int) (h : Lib.atoiAll s.data.toList = .ok n) (w : World) :
  Calls Tryd.prog 55 #[.string s] w fun e w' => e = .returned (.tuple #[.int .i64 n, .nilIface]) ∧ Below w.heap.size w w' := by
 refine (Go.Proofs.Tryd.strconv_Atoi_ok s (by omega) n h w).mono ?_
 rintro e w' ⟨rfl, h1⟩
 rcases h1 with rfl | ⟨t, rfl⟩
 ·exact ⟨rfl, Below.refl _ _⟩
 ·exact ⟨rfl, bytes_below (Below.refl _ _) (Nat.le_refl _) _ _⟩
theorem impl_number.atoi_no (s : ByteArray) (hs : s.size ≤ 140737488355328) (h : ∀ n, Lib.atoiAll s.data.toList ≠ .ok n) (w : World) (hG : StopsIn w) :
  Calls Tryd.prog 55 #[.string s] w fun e w' => ∃ n t p, e = .returned (.tuple #[.int .i64 n, .iface t p]) ∧ Below w.heap.size w w' := by
 obtain ⟨⟨u1, v1, h1⟩, ⟨u2, v2, h2⟩⟩ := hG.errs
 rcases hA : Lib.atoiAll s.data.toList with n | _ | _
 ·exact absurd hA (h n)
 ·refine (Go.Proofs.Tryd.strconv_Atoi_syntax_var s (by omega) hA u1 v1 w h1).mono ?_
  rintro e w' ⟨N, rfl, _, _, hb⟩
  exact ⟨_, _, _, rfl, hb⟩
 ·refine (Go.Proofs.Tryd.strconv_Atoi_range_var s (by omega) hA u2 v2 w h2).mono ?_
  rintro e w' ⟨N, rfl, _, _, hb⟩
  exact ⟨_, _, _, rfl, hb⟩
theorem impl_number.calls (a0 : ByteArray) (r1 : Int) (r2 : Bool) (w : World) (hG : StopsIn w) (h : impl_number.f a0 = some (r1, r2)) :
  Calls Tryd.prog 45 #[.string a0] w fun e w' => e = .returned (.tuple #[.int .i64 r1, .bool r2]) ∧ Below w.heap.size w w' := by
 unfold impl_number.f at h
 by_cases hs : a0.size ≤ 140737488355328
 case neg => rw [if_neg hs] at h; exact absurd h u75_
 rw [if_pos hs] at h
 have h := Option.some.inj h
 have hG := Aside0.mk hG
 rcases hA : Lib.atoiAll a0.data.toList with n | _ | _
 ·have hbd := Lib.atoiAll_bounds hA
  have hok := impl_number.atoi_ok a0 hs n hA
  have hit : Aside0 (strconv_Itoa.f n = some ⟨(Lib.itoa n).toArray⟩) := ⟨if_pos hbd⟩
  unfold impl_number.v at h
  rw [hA] at h
  clear hA
  by_cases hw : -999999999 ≤ n ∧ n ≤ 999999999
  ·have hwi : Aside0 (impl_within.f n (-999999999) 999999999 = some true) := ⟨by unfold impl_within.f; rw [if_pos (show n ≥ -999999999 from hw.1), decide_eq_true hw.2]⟩
   by_cases he : Lib.itoa n = a0.data.toList
   ·have heq : (⟨(Lib.itoa n).toArray⟩ : ByteArray) = a0 := by rw [he]
    have h2 : (n, true) = (r1, r2) := by rw [← h]; simp only [if_pos (show -999999999 ≤ n ∧ n ≤ 999999999 ∧ Lib.itoa n = a0.data.toList from ⟨hw.1, hw.2, he⟩)]
    obtain ⟨rfl, rfl⟩ := Prod.mk.inj h2
    rw [heq] at hit
    clear h h2 he heq hw hbd
    go_enter Tryd.func45, Tryd.ntmps45
    go_wp2_with (first | (go_at_call 55; refine (hok _).mono ?_; rintro e w1 ⟨rfl, hb1⟩) | (go_at_call 50; refine (impl_within.calls _ _ _ _ _ hwi.out).mono ?_; rintro e w2 ⟨rfl, ⟨⟨q, rfl⟩⟩⟩) | (go_at_call 48; refine (strconv_Itoa.calls _ _ _ (StopsIn.below hG.out (pw_below_drewN hb1 q)) hit.out).mono ?_; rintro e w3 ⟨rfl, hb3⟩))
    go_ret2
    exact ⟨rfl, below_then (pw_below_drewN hb1 q) hb1.size hb3⟩
   ·have heq : ¬ (⟨(Lib.itoa n).toArray⟩ : ByteArray).toList = a0.toList := fun e => he (by rw [ByteArray.toList_eq, ByteArray.toList_eq] at e; simpa using e)
    have h2 : (0, false) = (r1, r2) := by rw [← h]; simp only [if_neg (show ¬ (-999999999 ≤ n ∧ n ≤ 999999999 ∧ Lib.itoa n = a0.data.toList) from fun hh => he hh.2.2)]
    obtain ⟨rfl, rfl⟩ := Prod.mk.inj h2
    obtain ⟨y, hy⟩ : ∃ y : ByteArray, (⟨(Lib.itoa n).toArray⟩ : ByteArray) = y := ⟨_, rfl⟩
    rw [hy] at hit heq
    have hb0 : (y.toList != a0.toList) = true := by simpa using heq
    have hb1_ : (y.toList == a0.toList) = false := by simpa using heq
    clear h h2 he hw hbd hy
    go_enter Tryd.func45, Tryd.ntmps45
    go_wp2_with (first | (go_at_call 55; refine (hok _).mono ?_; rintro e w1 ⟨rfl, hb1⟩) | (go_at_call 50; refine (impl_within.calls _ _ _ _ _ hwi.out).mono ?_; rintro e w2 ⟨rfl, ⟨⟨q, rfl⟩⟩⟩) | (go_at_call 48; refine (strconv_Itoa.calls _ _ _ (StopsIn.below hG.out (pw_below_drewN hb1 q)) hit.out).mono ?_; rintro e w3 ⟨rfl, hb3⟩))
    go_ret2
    exact ⟨rfl, below_then (pw_below_drewN hb1 q) hb1.size hb3⟩
  ·have hwi : Aside0 (impl_within.f n (-999999999) 999999999 = some false) := ⟨by
    unfold impl_within.f
    by_cases h1 : n ≥ -999999999
    ·rw [if_pos h1, decide_eq_false (by omega)]
    ·rw [if_neg h1]⟩
   have h2 : (0, false) = (r1, r2) := by rw [← h]; simp only [if_neg (show ¬ (-999999999 ≤ n ∧ n ≤ 999999999 ∧ Lib.itoa n = a0.data.toList) from fun hh => hw ⟨hh.1, hh.2.1⟩)]
   obtain ⟨rfl, rfl⟩ := Prod.mk.inj h2
   clear h h2 hw hbd
   go_enter Tryd.func45, Tryd.ntmps45
   go_wp2_with (first | (go_at_call 55; refine (hok _).mono ?_; rintro e w1 ⟨rfl, hb1⟩) | (go_at_call 50; refine (impl_within.calls _ _ _ _ _ hwi.out).mono ?_; rintro e w2 ⟨rfl, ⟨⟨q, rfl⟩⟩⟩) | (go_at_call 48; refine (strconv_Itoa.calls _ _ _ (StopsIn.below hG.out (pw_below_drewN hb1 q)) hit.out).mono ?_; rintro e w3 ⟨rfl, hb3⟩))
   go_ret2
   exact ⟨rfl, pw_below_drewN hb1 q⟩
 ·have hno := impl_number.atoi_no a0 hs (fun n e => by rw [hA] at e; cases e)
  have h2 : (0, false) = (r1, r2) := by rw [← h]; unfold impl_number.v; rw [hA]
  obtain ⟨rfl, rfl⟩ := Prod.mk.inj h2
  clear h h2 hA
  go_enter Tryd.func45, Tryd.ntmps45
  go_wp2_with (first | (go_at_call 55; refine (hno _ hG.out).mono ?_; rintro e w1 ⟨n, t, p, rfl, hb1⟩))
  go_ret2
  exact ⟨rfl, hb1⟩
 ·have hno := impl_number.atoi_no a0 hs (fun n e => by rw [hA] at e; cases e)
  have h2 : (0, false) = (r1, r2) := by rw [← h]; unfold impl_number.v; rw [hA]
  obtain ⟨rfl, rfl⟩ := Prod.mk.inj h2
  clear h h2 hA
  go_enter Tryd.func45, Tryd.ntmps45
  go_wp2_with (first | (go_at_call 55; refine (hno _ hG.out).mono ?_; rintro e w1 ⟨n, t, p, rfl, hb1⟩))
  go_ret2
  exact ⟨rfl, hb1⟩

/-! ### impl_plain: function 113 -/
def impl_plain.l0 : Nat → ByteArray → Int → Int → Int → Option (Bool)
 | 0, _, _, _, _ => none
 | k + 1, x0, x1, x7, x8 => if x8 < x7 then (if 0 ≤ x8 then (if x8 < (x0.size : Int) then ((impl_within.f (wrap64 (bt x0 x8)) 32 126).bind fun t124 => (if t124 = true then (impl_plain.l0 k x0 x1 x7 (wrap64 (x8 + 1))) else (some false))) else (none)) else (none)) else (some (decide ((x0.size : Int) ≤ x1)))
def impl_plain.f (k : Nat) (a0 : ByteArray) (a1 : Int) : Option (Bool) := impl_plain.l0 k a0 a1 (a0.size : Int) 0
theorem impl_plain.mono_l : ∀ k, (∀ y0 y1 y2 y3, LeO (impl_plain.l0 k y0 y1 y2 y3) (impl_plain.l0 (k + 1) y0 y1 y2 y3))
 | 0 => fun _ _ _ _ r h => by simp [impl_plain.l0] at h
 | k + 1 => by
  have ih0 := impl_plain.mono_l k
  ·intro y0 y1 y2 y3
   unfold impl_plain.l0
   repeat' first
   | (with_reducible exact ih0 _ _ _ _)
   | (with_reducible exact LeO.refl _)
   | (with_reducible exact LeO.none _)
   | (with_reducible refine LeO.ite ?_ ?_)
   | (with_reducible refine LeO.bind ?_ (fun _ => ?_))
   | exact ih0 _ _ _ _
   | exact LeO.none _
   | refine LeO.ite ?_ ?_
   | refine LeO.bind ?_ (fun _ => ?_)
theorem impl_plain.mono : ∀ a0 a1 k, LeO (impl_plain.f k a0 a1) (impl_plain.f (k + 1) a0 a1) := by
 intro a0 a1 k
 have ih0 := impl_plain.mono_l k
 unfold impl_plain.f
 repeat' first
   | (with_reducible exact ih0 _ _ _ _)
   | (with_reducible exact LeO.refl _)
   | (with_reducible exact LeO.none _)
   | (with_reducible refine LeO.ite ?_ ?_)
   | (with_reducible refine LeO.bind ?_ (fun _ => ?_))
   | exact ih0 _ _ _ _
   | exact LeO.none _
   | refine LeO.ite ?_ ?_
   | refine LeO.bind ?_ (fun _ => ?_)
set_option maxHeartbeats 8000000 in
set_option maxRecDepth 100000 in
theorem impl_plain.calls (k : Nat) (a0 : ByteArray) (a1 : Int) (r : Bool) (w : World) (h : impl_plain.f k a0 a1 = some r) :
  Calls Tryd.prog 113 #[.string a0, .int .i64 a1] w fun e w' => e = .returned (.bool r) ∧ Drawn0 w w' := by
 have H : (impl_plain.l0 k a0 a1 (a0.size : Int) 0) = some r := h
 clear h
 have H' := Aside0.mk H
 clear H
 go_enter Tryd.func113, Tryd.ntmps113
 go_wp2
 go_loopg [8] k (fun kq v8 w' => ∃ (x8_1 : Int), v8 = .int .i64 x8_1 ∧ Aside0 (impl_plain.l0 kq a0 a1 (a0.size : Int) x8_1 = some r) ∧ Aside0 (kq ≤ k) ∧ Drawn0 w w')
 case atStart => exact ⟨(0), u16_, H', ⟨Nat.le_refl _⟩, u20_⟩
 case round =>
  clear H'
  try clear c1
  try clear p2
  obtain ⟨x8_1, rfl, HA, HK1, ⟨m1, rfl⟩⟩ := hrel
  cases gk with
  | zero => exact absurd HA.out (by simp [impl_plain.l0])
  | succ k1 =>
   have H := HA.out
   clear HA
   simp only [impl_plain.l0] at H
   by_cases c3 : x8_1 < (a0.size : Int)
   ·rw [if_pos c3] at H
    have c3b0 : decide (x8_1 < (a0.size : Int)) = true := decide_eq_true c3
    clear c3
    by_cases c4 : 0 ≤ x8_1
    ·rw [if_pos c4] at H
     have c4b0 : decide (0 ≤ x8_1) = true := decide_eq_true c4
     clear c4
     by_cases c5 : x8_1 < (a0.size : Int)
     ·rw [if_pos c5] at H
      have c5b0 : decide (x8_1 < (a0.size : Int)) = true := decide_eq_true c5
      clear c5
      replace H := Option.bind_eq_some_iff.mp H
      obtain ⟨t124, A70, H⟩ := H
      replace H : (if t124 = true then (impl_plain.l0 k1 a0 a1 (a0.size : Int) (wrap64 (x8_1 + 1))) else (some false)) = some r := H
      have A7 := Aside0.mk A70
      clear A70
      by_cases c8 : t124 = true
      ·subst c8
       have H1 : (impl_plain.l0 k1 a0 a1 (a0.size : Int) (wrap64 (x8_1 + 1))) = some r := by rw [if_pos rfl] at H; exact H
       clear H
       have H := H1
       clear H1
       have H' := Aside0.mk H
       clear H
       have p6 : 0 ≤ (x8_1 : Int) := of_decide_eq_true u2_
       have q6 : x8_1 < (a0.size : Int) := of_decide_eq_true u2_
       have hx6 := bt_at a0 x8_1
       replace p6 := eq_true p6
       replace q6 := eq_true q6
       go_wp2_with (first | ((with_reducible refine gate_callee (f := 50) rfl ?_); refine goesL_ (some 15) rfl rfl Tryd.func50 u7_ rfl #[.int .i64 (wrap64 (bt a0 x8_1)), .int .i64 32, .int .i64 126] rfl u1_ ?_; (with_reducible refine (impl_within.calls (wrap64 (bt a0 x8_1)) 32 126 true _ A7.out).mono ?_); rintro e w' ⟨rfl, ⟨nd, rfl⟩⟩; refine ⟨_, rfl, ?_⟩))
       go_roundg k1
       case measure => have := HK1.out; omega
       case rel => exact ⟨(wrap64 (x8_1 + 1)), u16_, H', ⟨u65_⟩, u20_⟩
      ·replace c8 := Bool.eq_false_iff.mpr c8
       subst c8
       have H1 : (some false) = some r := by rw [if_neg (show ¬ (false = true) by decide)] at H; exact H
       clear H
       have H := H1
       clear H1
       obtain rfl := Option.some.inj H
       have p6 : 0 ≤ (x8_1 : Int) := of_decide_eq_true u2_
       have q6 : x8_1 < (a0.size : Int) := of_decide_eq_true u2_
       have hx6 := bt_at a0 x8_1
       replace p6 := eq_true p6
       replace q6 := eq_true q6
       go_wp2_with (first | ((with_reducible refine gate_callee (f := 50) rfl ?_); refine goesL_ (some 15) rfl rfl Tryd.func50 u7_ rfl #[.int .i64 (wrap64 (bt a0 x8_1)), .int .i64 32, .int .i64 126] rfl u1_ ?_; (with_reducible refine (impl_within.calls (wrap64 (bt a0 x8_1)) 32 126 false _ A7.out).mono ?_); rintro e w' ⟨rfl, ⟨nd, rfl⟩⟩; refine ⟨_, rfl, ?_⟩))
       go_ret
       exact ⟨u21_, u20_⟩
     ·rw [if_neg c5] at H
      exact absurd H u75_
    ·rw [if_neg c4] at H
     exact absurd H u75_
   ·rw [if_neg c3] at H
    have c3b0 : decide (x8_1 < (a0.size : Int)) = false := decide_eq_false c3
    clear c3
    obtain rfl := Option.some.inj H
    go_wp2
    go_ret
    exact ⟨u21_, u20_⟩

/-! ### impl_textOk: function 89 -/
def impl_textOk.f (k : Nat) (a0 : ByteArray) : Option (Bool) := (impl_plain.f k a0 60).bind fun t125 => (some t125)
theorem impl_textOk.mono : ∀ a0 k, LeO (impl_textOk.f k a0) (impl_textOk.f (k + 1) a0) := by
 intro a0 k
 unfold impl_textOk.f
 repeat' first
   | (with_reducible exact impl_plain.mono _ _ _)
   | (with_reducible exact LeO.refl _)
   | (with_reducible exact LeO.none _)
   | (with_reducible refine LeO.ite ?_ ?_)
   | (with_reducible refine LeO.bind ?_ (fun _ => ?_))
   | exact impl_plain.mono _ _ _
   | exact LeO.none _
   | refine LeO.ite ?_ ?_
   | refine LeO.bind ?_ (fun _ => ?_)
set_option maxHeartbeats 8000000 in
set_option maxRecDepth 100000 in
theorem impl_textOk.calls (k : Nat) (a0 : ByteArray) (r : Bool) (w : World) (h : impl_textOk.f k a0 = some r) :
  Calls Tryd.prog 89 #[.string a0] w fun e w' => e = .returned (.bool r) ∧ Drawn0 w w' := by
 have H : ((impl_plain.f k a0 60).bind fun t125 => (some t125)) = some r := h
 clear h
 replace H := Option.bind_eq_some_iff.mp H
 obtain ⟨t125, A20, H⟩ := H
 replace H : (some t125) = some r := H
 have A2 := Aside0.mk A20
 clear A20
 obtain rfl := Option.some.inj H
 go_enter Tryd.func89, Tryd.ntmps89
 go_wp2_with (first | ((with_reducible refine gate_callee (f := 113) rfl ?_); refine goesL_ (some 4) rfl rfl Tryd.func113 u7_ rfl #[.string a0, .int .i64 60] rfl u1_ ?_; (with_reducible refine (impl_plain.calls k a0 60 t125 _ A2.out).mono ?_); rintro e w' ⟨rfl, ⟨nd, rfl⟩⟩; refine ⟨_, rfl, ?_⟩))
 go_ret
 exact ⟨u21_, u20_⟩

/-! ### impl_wellFormed: function 60 -/
def impl_wellFormed.l0 : Nat → List (S46) → Int → Int → ByteArray → List (S46) → Option (Bool)
 | 0, _, _, _, _, _ => none
 | k + 1, x6, x7, x8, x127000, x127001 => if x8 < x7 then (if 0 ≤ x8 then (if x8 < (x6.length : Int) then ((impl_NameOk.f k ((rd_T46 x6 x8).f0)).bind fun t130 => (if t130 = true then ((impl_textOk.f k ((rd_T46 x6 x8).f1)).bind fun t131 => (if t131 = true then (if x8 > 0 then (if 0 ≤ (wrap64 (x8 - 1)) then (if (wrap64 (x8 - 1)) < (x127001.length : Int) then (if ((Op.bytesLess (((rd_T46 x127001 (wrap64 (x8 - 1))).f0).toList) (((rd_T46 x6 x8).f0).toList)) = true) then (impl_wellFormed.l0 k x6 x7 (wrap64 (x8 + 1)) x127000 x127001) else (some false)) else (none)) else (none)) else (impl_wellFormed.l0 k x6 x7 (wrap64 (x8 + 1)) x127000 x127001)) else (some false))) else (some false))) else (none)) else (none)) else ((impl_NameOk.f k x127000).bind fun t127 => (if t127 = true then (some (decide ((x127001.length : Int) ≤ 4))) else (some false)))
def impl_wellFormed.f (k : Nat) (a0_0 : ByteArray) (l0_1 : List (S46)) : Option (Bool) := impl_wellFormed.l0 k l0_1 (l0_1.length : Int) 0 a0_0 l0_1
theorem impl_wellFormed.mono_l : ∀ k, (∀ y0 y1 y2 y3 y4, LeO (impl_wellFormed.l0 k y0 y1 y2 y3 y4) (impl_wellFormed.l0 (k + 1) y0 y1 y2 y3 y4))
 | 0 => fun _ _ _ _ _ r h => by simp [impl_wellFormed.l0] at h
 | k + 1 => by
  have ih0 := impl_wellFormed.mono_l k
  ·intro y0 y1 y2 y3 y4
   unfold impl_wellFormed.l0
   repeat' first
   | (with_reducible exact ih0 _ _ _ _ _)
   | (with_reducible exact impl_NameOk.mono _ _)
   | (with_reducible exact impl_textOk.mono _ _)
   | (with_reducible exact LeO.refl _)
   | (with_reducible exact LeO.none _)
   | (with_reducible refine LeO.ite ?_ ?_)
   | (with_reducible refine LeO.bind ?_ (fun _ => ?_))
   | exact ih0 _ _ _ _ _
   | exact impl_NameOk.mono _ _
   | exact impl_textOk.mono _ _
   | exact LeO.none _
   | refine LeO.ite ?_ ?_
   | refine LeO.bind ?_ (fun _ => ?_)
theorem impl_wellFormed.mono : ∀ a0 a1 k, LeO (impl_wellFormed.f k a0 a1) (impl_wellFormed.f (k + 1) a0 a1) := by
 intro a0 a1 k
 have ih0 := impl_wellFormed.mono_l k
 unfold impl_wellFormed.f
 repeat' first
   | (with_reducible exact ih0 _ _ _ _ _)
   | (with_reducible exact impl_NameOk.mono _ _)
   | (with_reducible exact impl_textOk.mono _ _)
   | (with_reducible exact LeO.refl _)
   | (with_reducible exact LeO.none _)
   | (with_reducible refine LeO.ite ?_ ?_)
   | (with_reducible refine LeO.bind ?_ (fun _ => ?_))
   | exact ih0 _ _ _ _ _
   | exact impl_NameOk.mono _ _
   | exact impl_textOk.mono _ _
   | exact LeO.none _
   | refine LeO.ite ?_ ?_
   | refine LeO.bind ?_ (fun _ => ?_)
set_option maxHeartbeats 8000000 in
set_option maxRecDepth 100000 in
theorem impl_wellFormed.calls (k : Nat) (a0_0 : ByteArray) (A0_1 : Option Addr) (c0_1 : Nat) (l0_1 : List (S46)) (r : Bool) (w : World) (hr0_1 : Kd.C k46 w A0_1 l0_1.length l0_1) (hc0_1 : l0_1.length ≤ c0_1) (h : impl_wellFormed.f k a0_0 l0_1 = some r) :
  Calls Tryd.prog 60 #[.agg #[.string a0_0, .slice A0_1 l0_1.length c0_1]] w fun e w' => e = .returned (.bool r) ∧ Below w.heap.size w w' := by
 have hu41 := Tryd.underlying41
 have hu46 := Tryd.underlying46
 have HR0_1 := Aside0.mk hr0_1
 have HC0_1 := Aside0.mk hc0_1
 clear hr0_1 hc0_1
 have HB := Aside0.mk (Below.refl w.heap.size w)
 have H : (impl_wellFormed.l0 k l0_1 (l0_1.length : Int) 0 a0_0 l0_1) = some r := h
 clear h
 have H' := Aside0.mk H
 clear H
 go_enter Tryd.func60, Tryd.ntmps60
 go_wp2_with (first | ((with_reducible refine gate_dst (N := 1) rfl ?_); (try (refine gate_guard u39_ ?_; dsimp only)); refine box_event ?hg (N := 1) ?hd (cs := #[.string a0_0, .slice A0_1 l0_1.length c0_1]) (t := 41) ?hr ?_; (case hd => rfl); (case hg => rfl); (case hr => first | (go_simp; done) | (go_simp; rfl)); intro gb126 hg w2 hbox hb; have n0_ := Aside0.mk (below_step u0_ hb); have n1_ := Aside0.mk (hbox); have n2_ := Aside0.mk ((by rw [hg]; exact (below_size u0_) : w.heap.size ≤ gb126)); have n3_ := n2_; clear HB; have HB := n0_; have BK126 := n1_; have GW126 := n2_; have GE126 := n3_; clear n0_ n1_ n2_ n3_; clear hb hbox hg; have hcz3_0 : w2.cell? ⟨gb126, 0, none⟩ = some (.string a0_0) := (blk_cell BK126.out 0).trans rfl; have hcz3_1 : w2.cell? ⟨gb126, 1, none⟩ = some (.slice A0_1 l0_1.length c0_1) := (blk_cell BK126.out 1).trans rfl; have hfz3_0 := blk_frozen BK126.out 0; have hfz3_1 := blk_frozen BK126.out 1))
 repeat (go_quiet (first | ((with_reducible refine gate_dst (N := 1) rfl ?_); (try (refine gate_guard u39_ ?_; dsimp only)); refine box_event ?hg (N := 1) ?hd (cs := #[.string a0_0, .slice A0_1 l0_1.length c0_1]) (t := 41) ?hr ?_; (case hd => rfl); (case hg => rfl); (case hr => first | (go_simp; done) | (go_simp; rfl)); intro gb126 hg w2 hbox hb; have n0_ := Aside0.mk (below_step u0_ hb); have n1_ := Aside0.mk (hbox); have n2_ := Aside0.mk ((by rw [hg]; exact (below_size u0_) : w.heap.size ≤ gb126)); have n3_ := n2_; clear HB; have HB := n0_; have BK126 := n1_; have GW126 := n2_; have GE126 := n3_; clear n0_ n1_ n2_ n3_; clear hb hbox hg; have hcz3_0 : w2.cell? ⟨gb126, 0, none⟩ = some (.string a0_0) := (blk_cell BK126.out 0).trans rfl; have hcz3_1 : w2.cell? ⟨gb126, 1, none⟩ = some (.slice A0_1 l0_1.length c0_1) := (blk_cell BK126.out 1).trans rfl; have hfz3_0 := blk_frozen BK126.out 0; have hfz3_1 := blk_frozen BK126.out 1)); try go_wp2_with (first | ((with_reducible refine gate_dst (N := 1) rfl ?_); (try (refine gate_guard u39_ ?_; dsimp only)); refine box_event ?hg (N := 1) ?hd (cs := #[.string a0_0, .slice A0_1 l0_1.length c0_1]) (t := 41) ?hr ?_; (case hd => rfl); (case hg => rfl); (case hr => first | (go_simp; done) | (go_simp; rfl)); intro gb126 hg w2 hbox hb; have n0_ := Aside0.mk (below_step u0_ hb); have n1_ := Aside0.mk (hbox); have n2_ := Aside0.mk ((by rw [hg]; exact (below_size u0_) : w.heap.size ≤ gb126)); have n3_ := Aside0.mk ((by rw [hg]; exact (below_size u0_) : w.heap.size ≤ gb126)); clear HB; have HB := n0_; have BK126 := n1_; have GW126 := n2_; have GE126 := n3_; clear n0_ n1_ n2_ n3_; clear hb hbox hg; have hcz3_0 : w2.cell? ⟨gb126, 0, none⟩ = some (.string a0_0) := (blk_cell BK126.out 0).trans rfl; have hcz3_1 : w2.cell? ⟨gb126, 1, none⟩ = some (.slice A0_1 l0_1.length c0_1) := (blk_cell BK126.out 1).trans rfl; have hfz3_0 := blk_frozen BK126.out 0; have hfz3_1 := blk_frozen BK126.out 1)))
 go_loopg [8] k (fun kq v8 w' => ∃ (x8_1 : Int), v8 = .int .i64 x8_1 ∧ Aside0 (impl_wellFormed.l0 kq l0_1 (l0_1.length : Int) x8_1 a0_0 l0_1 = some r) ∧ Aside0 (kq ≤ k) ∧ Aside0 (w'.heap[gb126]? = some (.cells #[.string a0_0, (.slice A0_1 l0_1.length c0_1)] 41 (0, 0))) ∧ Aside0 (Below w.heap.size w w'))
 case atStart => exact ⟨(0), u16_, H', ⟨Nat.le_refl _⟩, ⟨u8_⟩, ⟨u6_⟩⟩
 case round =>
  clear H'
  try clear p2
  try clear hcz3_0
  try clear hcz3_1
  try clear hfz3_0
  try clear hfz3_1
  obtain ⟨x8_1, rfl, HA, HK1, BK126, HB⟩ := hrel
  cases gk with
  | zero => exact absurd HA.out (by simp [impl_wellFormed.l0])
  | succ k1 =>
   have H := HA.out
   clear HA
   simp only [impl_wellFormed.l0] at H
   by_cases c4 : x8_1 < (l0_1.length : Int)
   ·rw [if_pos c4] at H
    have c4b0 : decide (x8_1 < (l0_1.length : Int)) = true := decide_eq_true c4
    clear c4
    by_cases c5 : 0 ≤ x8_1
    ·rw [if_pos c5] at H
     have c5b0 : decide (0 ≤ x8_1) = true := decide_eq_true c5
     clear c5
     by_cases c6 : x8_1 < (l0_1.length : Int)
     ·rw [if_pos c6] at H
      have c6b0 : decide (x8_1 < (l0_1.length : Int)) = true := decide_eq_true c6
      clear c6
      replace H := Option.bind_eq_some_iff.mp H
      obtain ⟨t130, A70, H⟩ := H
      replace H : (if t130 = true then ((impl_textOk.f k1 ((rd_T46 l0_1 x8_1).f1)).bind fun t131 => (if t131 = true then (if x8_1 > 0 then (if 0 ≤ (wrap64 (x8_1 - 1)) then (if (wrap64 (x8_1 - 1)) < (l0_1.length : Int) then (if ((Op.bytesLess (((rd_T46 l0_1 (wrap64 (x8_1 - 1))).f0).toList) (((rd_T46 l0_1 x8_1).f0).toList)) = true) then (impl_wellFormed.l0 k1 l0_1 (l0_1.length : Int) (wrap64 (x8_1 + 1)) a0_0 l0_1) else (some false)) else (none)) else (none)) else (impl_wellFormed.l0 k1 l0_1 (l0_1.length : Int) (wrap64 (x8_1 + 1)) a0_0 l0_1)) else (some false))) else (some false)) = some r := H
      have A7 := Aside0.mk A70
      clear A70
      by_cases c8 : t130 = true
      ·subst c8
       have H1 : ((impl_textOk.f k1 ((rd_T46 l0_1 x8_1).f1)).bind fun t131 => (if t131 = true then (if x8_1 > 0 then (if 0 ≤ (wrap64 (x8_1 - 1)) then (if (wrap64 (x8_1 - 1)) < (l0_1.length : Int) then (if ((Op.bytesLess (((rd_T46 l0_1 (wrap64 (x8_1 - 1))).f0).toList) (((rd_T46 l0_1 x8_1).f0).toList)) = true) then (impl_wellFormed.l0 k1 l0_1 (l0_1.length : Int) (wrap64 (x8_1 + 1)) a0_0 l0_1) else (some false)) else (none)) else (none)) else (impl_wellFormed.l0 k1 l0_1 (l0_1.length : Int) (wrap64 (x8_1 + 1)) a0_0 l0_1)) else (some false))) = some r := by rw [if_pos rfl] at H; exact H
       clear H
       have H := H1
       clear H1
       replace H := Option.bind_eq_some_iff.mp H
       obtain ⟨t131, A90, H⟩ := H
       replace H : (if t131 = true then (if x8_1 > 0 then (if 0 ≤ (wrap64 (x8_1 - 1)) then (if (wrap64 (x8_1 - 1)) < (l0_1.length : Int) then (if ((Op.bytesLess (((rd_T46 l0_1 (wrap64 (x8_1 - 1))).f0).toList) (((rd_T46 l0_1 x8_1).f0).toList)) = true) then (impl_wellFormed.l0 k1 l0_1 (l0_1.length : Int) (wrap64 (x8_1 + 1)) a0_0 l0_1) else (some false)) else (none)) else (none)) else (impl_wellFormed.l0 k1 l0_1 (l0_1.length : Int) (wrap64 (x8_1 + 1)) a0_0 l0_1)) else (some false)) = some r := H
       have A9 := Aside0.mk A90
       clear A90
       by_cases c10 : t131 = true
       ·subst c10
        have H1 : (if x8_1 > 0 then (if 0 ≤ (wrap64 (x8_1 - 1)) then (if (wrap64 (x8_1 - 1)) < (l0_1.length : Int) then (if ((Op.bytesLess (((rd_T46 l0_1 (wrap64 (x8_1 - 1))).f0).toList) (((rd_T46 l0_1 x8_1).f0).toList)) = true) then (impl_wellFormed.l0 k1 l0_1 (l0_1.length : Int) (wrap64 (x8_1 + 1)) a0_0 l0_1) else (some false)) else (none)) else (none)) else (impl_wellFormed.l0 k1 l0_1 (l0_1.length : Int) (wrap64 (x8_1 + 1)) a0_0 l0_1)) = some r := by rw [if_pos rfl] at H; exact H
        clear H
        have H := H1
        clear H1
        by_cases c11 : x8_1 > 0
        ·rw [if_pos c11] at H
         have c11b0 : decide (0 < x8_1) = true := decide_eq_true c11
         clear c11
         obtain ⟨ji12, hji12⟩ : ∃ j_ : Int, (wrap64 (x8_1 - 1)) = j_ := ⟨_, rfl⟩
         replace H : (if 0 ≤ (ji12) then (if (ji12) < (l0_1.length : Int) then (if ((Op.bytesLess (((rd_T46 l0_1 (ji12)).f0).toList) (((rd_T46 l0_1 x8_1).f0).toList)) = true) then (impl_wellFormed.l0 k1 l0_1 (l0_1.length : Int) (wrap64 (x8_1 + 1)) a0_0 l0_1) else (some false)) else (none)) else (none)) = some r := by first | (rw [hji12] at H; exact H) | (simp only [hji12] at H ⊢; exact H)
         (try rw [hji12] at A7)
         (try rw [hji12] at A9)
         have hji12w : (IntKind.i64.wrap (x8_1 - 1)) = ji12 := (i64_w _).trans hji12
         by_cases c13 : 0 ≤ (ji12)
         ·rw [if_pos c13] at H
          have c13b0 : decide (0 ≤ (ji12)) = true := decide_eq_true c13
          clear c13
          by_cases c14 : (ji12) < (l0_1.length : Int)
          ·rw [if_pos c14] at H
           have c14b0 : decide ((ji12) < (l0_1.length : Int)) = true := decide_eq_true c14
           clear c14
           by_cases c15 : ((Op.bytesLess (((rd_T46 l0_1 (ji12)).f0).toList) (((rd_T46 l0_1 x8_1).f0).toList)) = true)
           ·rw [if_pos c15] at H
            have c15b0 : (Op.bytesLess (((rd_T46 l0_1 (ji12)).f0).toList) (((rd_T46 l0_1 x8_1).f0).toList)) = true := c15
            clear c15
            have H' := Aside0.mk H
            clear H
            have p128 : 0 ≤ (x8_1 : Int) := of_decide_eq_true u2_
            have q128 : x8_1 < (l0_1.length : Int) := of_decide_eq_true u2_
            obtain ⟨ad128, e128, hx128_0, hx128_1⟩ := at_T46 HR0_1.out x8_1 p128 q128
            cases e128
            replace hx128_0 := (HB.out.cell (World.block_lt_of_cell? w _ hx128_0)).trans hx128_0
            replace hx128_1 := (HB.out.cell (World.block_lt_of_cell? w _ hx128_1)).trans hx128_1
            replace p128 := eq_true p128
            replace q128 := eq_true q128
            go_wp2_with (first | ((with_reducible refine gate_dst (N := 4) rfl ?_); (try (refine gate_guard u39_ ?_; dsimp only)); refine box_event ?hg (N := 4) ?hd (cs := #[.string (⟨#[]⟩ : ByteArray), .string (⟨#[]⟩ : ByteArray)]) (t := 46) ?hr ?_; (case hd => rfl); (case hg => rfl); (case hr => first | (go_simp; done) | (go_simp; rfl)); intro gb129 hg w16 hbox hb; have n0_ := Aside0.mk (blk_below (g := gb126) (o := .cells #[.string a0_0, .slice (some ad128) l0_1.length c0_1] 41 (0, 0)) u8_ hb); have n1_ := Aside0.mk (below_step u6_ hb); have n2_ := Aside0.mk (hbox); have n3_ := Aside0.mk ((by rw [hg]; exact (below_size u6_) : w.heap.size ≤ gb129)); have n4_ := n3_; have n5_ := Aside0.mk ((by rw [hg]; exact Nat.ne_of_lt (blk_lt (g := gb126) (o := .cells #[.string a0_0, .slice (some ad128) l0_1.length c0_1] 41 (0, 0)) u8_) : gb126 ≠ gb129)); have n6_ := Aside0.mk ((by rw [hg]; exact Nat.ne_of_gt (blk_lt (g := gb126) (o := .cells #[.string a0_0, .slice (some ad128) l0_1.length c0_1] 41 (0, 0)) u8_) : gb129 ≠ gb126)); clear BK126; clear HB; have BK126 := n0_; have HB := n1_; have BK129 := n2_; have GW129 := n3_; have GE129 := n4_; have NB126_129 := n5_; have NB129_126 := n6_; clear n0_ n1_ n2_ n3_ n4_ n5_ n6_; clear hb hbox hg; have hnb17 := NB129_126.out; have hnc17 := NB126_129.out; have hcz18_0 : w16.cell? ⟨gb129, 0, none⟩ = some (.string (⟨#[]⟩ : ByteArray)) := (blk_cell BK129.out 0).trans rfl; have hcz18_1 : w16.cell? ⟨gb129, 1, none⟩ = some (.string (⟨#[]⟩ : ByteArray)) := (blk_cell BK129.out 1).trans rfl; have hfz18_0 := blk_frozen BK129.out 0; have hfz18_1 := blk_frozen BK129.out 1) | (go_at_call 66; (with_reducible refine (impl_NameOk.calls k1 ((rd_T46 l0_1 x8_1).f0) true _ A7.out).mono ?_); rintro e w' ⟨rfl, ⟨nd, rfl⟩⟩; (try first | exact ⟨rfl, _, World.drewN_drewN _ _ _⟩ | exact ⟨rfl, _, Eq.trans (World.drewN_drewN _ _ _) (congrArg (World.drewN _) (Nat.add_assoc _ _ _))⟩)) | (go_at_call 89; (with_reducible refine (impl_textOk.calls k1 ((rd_T46 l0_1 x8_1).f1) true _ A9.out).mono ?_); rintro e w' ⟨rfl, ⟨nd, rfl⟩⟩; (try first | exact ⟨rfl, _, World.drewN_drewN _ _ _⟩ | exact ⟨rfl, _, Eq.trans (World.drewN_drewN _ _ _) (congrArg (World.drewN _) (Nat.add_assoc _ _ _))⟩); have hcz19_0 : w16.cell? ⟨gb126, 0, none⟩ = some (.string a0_0) := (blk_cell BK126.out 0).trans rfl; have hcz19_1 : w16.cell? ⟨gb126, 1, none⟩ = some (.slice (some ad128) l0_1.length c0_1) := (blk_cell BK126.out 1).trans rfl; have hfz19_0 := blk_frozen BK126.out 0; have hfz19_1 := blk_frozen BK126.out 1; have p132 : 0 ≤ ((ji12) : Int) := of_decide_eq_true u2_; have q132 : (ji12) < (l0_1.length : Int) := of_decide_eq_true u2_; obtain ⟨ad132, e132, hx132_0, hx132_1⟩ := at_T46 HR0_1.out (ji12) p132 q132; obtain rfl : ad128 = ad132 := (by injection e132); have hn132_0 : ad128.block ≠ gb129 := Nat.ne_of_lt (Nat.lt_of_lt_of_le (by have := World.block_lt_of_cell? _ _ hx132_0; first | rwa [add_block] at this | exact this) GW129.out); have hn132_1 : ad128.block ≠ gb129 := Nat.ne_of_lt (Nat.lt_of_lt_of_le (by have := World.block_lt_of_cell? _ _ hx132_0; first | rwa [add_block] at this | exact this) GW129.out); replace hx132_0 := (HB.out.cell (World.block_lt_of_cell? w _ hx132_0)).trans hx132_0; replace hx132_1 := (HB.out.cell (World.block_lt_of_cell? w _ hx132_1)).trans hx132_1; replace hx132_0 := (cell_far (p := ⟨gb129, 0, none⟩) u30_ (.string ((rd_T46 l0_1 x8_1).f0))).trans hx132_0; replace hx132_1 := (cell_far (p := ⟨gb129, 0, none⟩) u30_ (.string ((rd_T46 l0_1 x8_1).f0))).trans hx132_1; replace hx132_0 := (cell_far (p := ⟨gb129, 1, none⟩) u31_ (.string ((rd_T46 l0_1 x8_1).f1))).trans hx132_0; replace hx132_1 := (cell_far (p := ⟨gb129, 1, none⟩) u31_ (.string ((rd_T46 l0_1 x8_1).f1))).trans hx132_1; (try have hy132_0 := fun (n_ : Nat) => (show ((((w16.drewN n_).setCell ⟨gb129, 0, none⟩ (.string ((rd_T46 l0_1 x8_1).f0))).setCell ⟨gb129, 1, none⟩ (.string ((rd_T46 l0_1 x8_1).f1)))).cell? _ = some _ from hx132_0)); (try have hy132_1 := fun (n_ : Nat) => (show ((((w16.drewN n_).setCell ⟨gb129, 0, none⟩ (.string ((rd_T46 l0_1 x8_1).f0))).setCell ⟨gb129, 1, none⟩ (.string ((rd_T46 l0_1 x8_1).f1)))).cell? _ = some _ from hx132_1)); clear hn132_0; clear hn132_1; replace p132 := eq_true p132; replace q132 := eq_true q132))
            repeat (go_quiet (first | ((with_reducible refine gate_dst (N := 4) rfl ?_); (try (refine gate_guard u39_ ?_; dsimp only)); refine box_event ?hg (N := 4) ?hd (cs := #[.string (⟨#[]⟩ : ByteArray), .string (⟨#[]⟩ : ByteArray)]) (t := 46) ?hr ?_; (case hd => rfl); (case hg => rfl); (case hr => first | (go_simp; done) | (go_simp; rfl)); intro gb129 hg w16 hbox hb; have n0_ := Aside0.mk (blk_below (g := gb126) (o := .cells #[.string a0_0, .slice (some ad128) l0_1.length c0_1] 41 (0, 0)) u8_ hb); have n1_ := Aside0.mk (below_step u6_ hb); have n2_ := Aside0.mk (hbox); have n3_ := Aside0.mk ((by rw [hg]; exact (below_size u6_) : w.heap.size ≤ gb129)); have n4_ := n3_; have n5_ := Aside0.mk ((by rw [hg]; exact Nat.ne_of_lt (blk_lt (g := gb126) (o := .cells #[.string a0_0, .slice (some ad128) l0_1.length c0_1] 41 (0, 0)) u8_) : gb126 ≠ gb129)); have n6_ := Aside0.mk ((by rw [hg]; exact Nat.ne_of_gt (blk_lt (g := gb126) (o := .cells #[.string a0_0, .slice (some ad128) l0_1.length c0_1] 41 (0, 0)) u8_) : gb129 ≠ gb126)); clear BK126; clear HB; have BK126 := n0_; have HB := n1_; have BK129 := n2_; have GW129 := n3_; have GE129 := n4_; have NB126_129 := n5_; have NB129_126 := n6_; clear n0_ n1_ n2_ n3_ n4_ n5_ n6_; clear hb hbox hg; have hnb17 := NB129_126.out; have hnc17 := NB126_129.out; have hcz18_0 : w16.cell? ⟨gb129, 0, none⟩ = some (.string (⟨#[]⟩ : ByteArray)) := (blk_cell BK129.out 0).trans rfl; have hcz18_1 : w16.cell? ⟨gb129, 1, none⟩ = some (.string (⟨#[]⟩ : ByteArray)) := (blk_cell BK129.out 1).trans rfl; have hfz18_0 := blk_frozen BK129.out 0; have hfz18_1 := blk_frozen BK129.out 1) | (go_at_call 66; (with_reducible refine (impl_NameOk.calls k1 ((rd_T46 l0_1 x8_1).f0) true _ A7.out).mono ?_); rintro e w' ⟨rfl, ⟨nd, rfl⟩⟩; (try first | exact ⟨rfl, _, World.drewN_drewN _ _ _⟩ | exact ⟨rfl, _, Eq.trans (World.drewN_drewN _ _ _) (congrArg (World.drewN _) (Nat.add_assoc _ _ _))⟩)) | (go_at_call 89; (with_reducible refine (impl_textOk.calls k1 ((rd_T46 l0_1 x8_1).f1) true _ A9.out).mono ?_); rintro e w' ⟨rfl, ⟨nd, rfl⟩⟩; (try first | exact ⟨rfl, _, World.drewN_drewN _ _ _⟩ | exact ⟨rfl, _, Eq.trans (World.drewN_drewN _ _ _) (congrArg (World.drewN _) (Nat.add_assoc _ _ _))⟩); have hcz19_0 : w16.cell? ⟨gb126, 0, none⟩ = some (.string a0_0) := (blk_cell BK126.out 0).trans rfl; have hcz19_1 : w16.cell? ⟨gb126, 1, none⟩ = some (.slice (some ad128) l0_1.length c0_1) := (blk_cell BK126.out 1).trans rfl; have hfz19_0 := blk_frozen BK126.out 0; have hfz19_1 := blk_frozen BK126.out 1; have p132 : 0 ≤ ((ji12) : Int) := of_decide_eq_true u2_; have q132 : (ji12) < (l0_1.length : Int) := of_decide_eq_true u2_; obtain ⟨ad132, e132, hx132_0, hx132_1⟩ := at_T46 HR0_1.out (ji12) p132 q132; obtain rfl : ad128 = ad132 := (by injection e132); have hn132_0 : ad128.block ≠ gb129 := Nat.ne_of_lt (Nat.lt_of_lt_of_le (by have := World.block_lt_of_cell? _ _ hx132_0; first | rwa [add_block] at this | exact this) GW129.out); have hn132_1 : ad128.block ≠ gb129 := Nat.ne_of_lt (Nat.lt_of_lt_of_le (by have := World.block_lt_of_cell? _ _ hx132_0; first | rwa [add_block] at this | exact this) GW129.out); replace hx132_0 := (HB.out.cell (World.block_lt_of_cell? w _ hx132_0)).trans hx132_0; replace hx132_1 := (HB.out.cell (World.block_lt_of_cell? w _ hx132_1)).trans hx132_1; replace hx132_0 := (cell_far (p := ⟨gb129, 0, none⟩) u30_ (.string ((rd_T46 l0_1 x8_1).f0))).trans hx132_0; replace hx132_1 := (cell_far (p := ⟨gb129, 0, none⟩) u30_ (.string ((rd_T46 l0_1 x8_1).f0))).trans hx132_1; replace hx132_0 := (cell_far (p := ⟨gb129, 1, none⟩) u31_ (.string ((rd_T46 l0_1 x8_1).f1))).trans hx132_0; replace hx132_1 := (cell_far (p := ⟨gb129, 1, none⟩) u31_ (.string ((rd_T46 l0_1 x8_1).f1))).trans hx132_1; (try have hy132_0 := fun (n_ : Nat) => (show ((((w16.drewN n_).setCell ⟨gb129, 0, none⟩ (.string ((rd_T46 l0_1 x8_1).f0))).setCell ⟨gb129, 1, none⟩ (.string ((rd_T46 l0_1 x8_1).f1)))).cell? _ = some _ from hx132_0)); (try have hy132_1 := fun (n_ : Nat) => (show ((((w16.drewN n_).setCell ⟨gb129, 0, none⟩ (.string ((rd_T46 l0_1 x8_1).f0))).setCell ⟨gb129, 1, none⟩ (.string ((rd_T46 l0_1 x8_1).f1)))).cell? _ = some _ from hx132_1)); clear hn132_0; clear hn132_1; replace p132 := eq_true p132; replace q132 := eq_true q132)); try go_wp2_with (first | ((with_reducible refine gate_dst (N := 4) rfl ?_); (try (refine gate_guard u39_ ?_; dsimp only)); refine box_event ?hg (N := 4) ?hd (cs := #[.string (⟨#[]⟩ : ByteArray), .string (⟨#[]⟩ : ByteArray)]) (t := 46) ?hr ?_; (case hd => rfl); (case hg => rfl); (case hr => first | (go_simp; done) | (go_simp; rfl)); intro gb129 hg w16 hbox hb; have n0_ := Aside0.mk (blk_below (g := gb126) (o := .cells #[.string a0_0, .slice (some ad128) l0_1.length c0_1] 41 (0, 0)) u8_ hb); have n1_ := Aside0.mk (below_step u6_ hb); have n2_ := Aside0.mk (hbox); have n3_ := Aside0.mk ((by rw [hg]; exact (below_size u6_) : w.heap.size ≤ gb129)); have n4_ := Aside0.mk ((by rw [hg]; exact (below_size u6_) : w.heap.size ≤ gb129)); have n5_ := Aside0.mk ((by rw [hg]; exact Nat.ne_of_lt (blk_lt (g := gb126) (o := .cells #[.string a0_0, .slice (some ad128) l0_1.length c0_1] 41 (0, 0)) u8_) : gb126 ≠ gb129)); have n6_ := Aside0.mk ((by rw [hg]; exact Nat.ne_of_gt (blk_lt (g := gb126) (o := .cells #[.string a0_0, .slice (some ad128) l0_1.length c0_1] 41 (0, 0)) u8_) : gb129 ≠ gb126)); clear BK126; clear HB; have BK126 := n0_; have HB := n1_; have BK129 := n2_; have GW129 := n3_; have GE129 := n4_; have NB126_129 := n5_; have NB129_126 := n6_; clear n0_ n1_ n2_ n3_ n4_ n5_ n6_; clear hb hbox hg; have hnb17 := NB129_126.out; have hnc17 := NB126_129.out; have hcz18_0 : w16.cell? ⟨gb129, 0, none⟩ = some (.string (⟨#[]⟩ : ByteArray)) := (blk_cell BK129.out 0).trans rfl; have hcz18_1 : w16.cell? ⟨gb129, 1, none⟩ = some (.string (⟨#[]⟩ : ByteArray)) := (blk_cell BK129.out 1).trans rfl; have hfz18_0 := blk_frozen BK129.out 0; have hfz18_1 := blk_frozen BK129.out 1) | (go_at_call 66; (with_reducible refine (impl_NameOk.calls k1 ((rd_T46 l0_1 x8_1).f0) true _ A7.out).mono ?_); rintro e w' ⟨rfl, ⟨nd, rfl⟩⟩; (try first | exact ⟨rfl, _, World.drewN_drewN _ _ _⟩ | exact ⟨rfl, _, Eq.trans (World.drewN_drewN _ _ _) (congrArg (World.drewN _) (Nat.add_assoc _ _ _))⟩)) | (go_at_call 89; (with_reducible refine (impl_textOk.calls k1 ((rd_T46 l0_1 x8_1).f1) true _ A9.out).mono ?_); rintro e w' ⟨rfl, ⟨nd, rfl⟩⟩; (try first | exact ⟨rfl, _, World.drewN_drewN _ _ _⟩ | exact ⟨rfl, _, Eq.trans (World.drewN_drewN _ _ _) (congrArg (World.drewN _) (Nat.add_assoc _ _ _))⟩); have hcz19_0 : w16.cell? ⟨gb126, 0, none⟩ = some (.string a0_0) := (blk_cell BK126.out 0).trans rfl; have hcz19_1 : w16.cell? ⟨gb126, 1, none⟩ = some (.slice (some ad128) l0_1.length c0_1) := (blk_cell BK126.out 1).trans rfl; have hfz19_0 := blk_frozen BK126.out 0; have hfz19_1 := blk_frozen BK126.out 1; have p132 : 0 ≤ ((ji12) : Int) := of_decide_eq_true u2_; have q132 : (ji12) < (l0_1.length : Int) := of_decide_eq_true u2_; obtain ⟨ad132, e132, hx132_0, hx132_1⟩ := at_T46 HR0_1.out (ji12) p132 q132; obtain rfl : ad128 = ad132 := (by injection e132); have hn132_0 : ad128.block ≠ gb129 := Nat.ne_of_lt (Nat.lt_of_lt_of_le (by have := World.block_lt_of_cell? _ _ hx132_0; first | rwa [add_block] at this | exact this) GW129.out); have hn132_1 : ad128.block ≠ gb129 := Nat.ne_of_lt (Nat.lt_of_lt_of_le (by have := World.block_lt_of_cell? _ _ hx132_0; first | rwa [add_block] at this | exact this) GW129.out); replace hx132_0 := (HB.out.cell (World.block_lt_of_cell? w _ hx132_0)).trans hx132_0; replace hx132_1 := (HB.out.cell (World.block_lt_of_cell? w _ hx132_1)).trans hx132_1; replace hx132_0 := (cell_far (p := ⟨gb129, 0, none⟩) u30_ (.string ((rd_T46 l0_1 x8_1).f0))).trans hx132_0; replace hx132_1 := (cell_far (p := ⟨gb129, 0, none⟩) u30_ (.string ((rd_T46 l0_1 x8_1).f0))).trans hx132_1; replace hx132_0 := (cell_far (p := ⟨gb129, 1, none⟩) u31_ (.string ((rd_T46 l0_1 x8_1).f1))).trans hx132_0; replace hx132_1 := (cell_far (p := ⟨gb129, 1, none⟩) u31_ (.string ((rd_T46 l0_1 x8_1).f1))).trans hx132_1; (try have hy132_0 := fun (n_ : Nat) => (show ((((w16.drewN n_).setCell ⟨gb129, 0, none⟩ (.string ((rd_T46 l0_1 x8_1).f0))).setCell ⟨gb129, 1, none⟩ (.string ((rd_T46 l0_1 x8_1).f1)))).cell? _ = some _ from hx132_0)); (try have hy132_1 := fun (n_ : Nat) => (show ((((w16.drewN n_).setCell ⟨gb129, 0, none⟩ (.string ((rd_T46 l0_1 x8_1).f0))).setCell ⟨gb129, 1, none⟩ (.string ((rd_T46 l0_1 x8_1).f1)))).cell? _ = some _ from hx132_1)); clear hn132_0; clear hn132_1; replace p132 := eq_true p132; replace q132 := eq_true q132)))
            go_roundg k1
            case measure => have := HK1.out; omega
            case rel => exact ⟨(wrap64 (x8_1 + 1)), u16_, H', ⟨u65_⟩, ⟨u73_⟩, ⟨u45_⟩⟩
           ·rw [if_neg c15] at H
            have c15b0 : (Op.bytesLess (((rd_T46 l0_1 (ji12)).f0).toList) (((rd_T46 l0_1 x8_1).f0).toList)) = false := by simpa using c15
            clear c15
            obtain rfl := Option.some.inj H
            have p128 : 0 ≤ (x8_1 : Int) := of_decide_eq_true u2_
            have q128 : x8_1 < (l0_1.length : Int) := of_decide_eq_true u2_
            obtain ⟨ad128, e128, hx128_0, hx128_1⟩ := at_T46 HR0_1.out x8_1 p128 q128
            cases e128
            replace hx128_0 := (HB.out.cell (World.block_lt_of_cell? w _ hx128_0)).trans hx128_0
            replace hx128_1 := (HB.out.cell (World.block_lt_of_cell? w _ hx128_1)).trans hx128_1
            replace p128 := eq_true p128
            replace q128 := eq_true q128
            go_wp2_with (first | ((with_reducible refine gate_dst (N := 4) rfl ?_); (try (refine gate_guard u39_ ?_; dsimp only)); refine box_event ?hg (N := 4) ?hd (cs := #[.string (⟨#[]⟩ : ByteArray), .string (⟨#[]⟩ : ByteArray)]) (t := 46) ?hr ?_; (case hd => rfl); (case hg => rfl); (case hr => first | (go_simp; done) | (go_simp; rfl)); intro gb129 hg w20 hbox hb; have n0_ := Aside0.mk (blk_below (g := gb126) (o := .cells #[.string a0_0, .slice (some ad128) l0_1.length c0_1] 41 (0, 0)) u8_ hb); have n1_ := Aside0.mk (below_step u6_ hb); have n2_ := Aside0.mk (hbox); have n3_ := Aside0.mk ((by rw [hg]; exact (below_size u6_) : w.heap.size ≤ gb129)); have n4_ := n3_; have n5_ := Aside0.mk ((by rw [hg]; exact Nat.ne_of_lt (blk_lt (g := gb126) (o := .cells #[.string a0_0, .slice (some ad128) l0_1.length c0_1] 41 (0, 0)) u8_) : gb126 ≠ gb129)); have n6_ := Aside0.mk ((by rw [hg]; exact Nat.ne_of_gt (blk_lt (g := gb126) (o := .cells #[.string a0_0, .slice (some ad128) l0_1.length c0_1] 41 (0, 0)) u8_) : gb129 ≠ gb126)); clear BK126; clear HB; have BK126 := n0_; have HB := n1_; have BK129 := n2_; have GW129 := n3_; have GE129 := n4_; have NB126_129 := n5_; have NB129_126 := n6_; clear n0_ n1_ n2_ n3_ n4_ n5_ n6_; clear hb hbox hg; have hnb21 := NB129_126.out; have hnc21 := NB126_129.out; have hcz22_0 : w20.cell? ⟨gb129, 0, none⟩ = some (.string (⟨#[]⟩ : ByteArray)) := (blk_cell BK129.out 0).trans rfl; have hcz22_1 : w20.cell? ⟨gb129, 1, none⟩ = some (.string (⟨#[]⟩ : ByteArray)) := (blk_cell BK129.out 1).trans rfl; have hfz22_0 := blk_frozen BK129.out 0; have hfz22_1 := blk_frozen BK129.out 1) | (go_at_call 66; (with_reducible refine (impl_NameOk.calls k1 ((rd_T46 l0_1 x8_1).f0) true _ A7.out).mono ?_); rintro e w' ⟨rfl, ⟨nd, rfl⟩⟩; (try first | exact ⟨rfl, _, World.drewN_drewN _ _ _⟩ | exact ⟨rfl, _, Eq.trans (World.drewN_drewN _ _ _) (congrArg (World.drewN _) (Nat.add_assoc _ _ _))⟩)) | (go_at_call 89; (with_reducible refine (impl_textOk.calls k1 ((rd_T46 l0_1 x8_1).f1) true _ A9.out).mono ?_); rintro e w' ⟨rfl, ⟨nd, rfl⟩⟩; (try first | exact ⟨rfl, _, World.drewN_drewN _ _ _⟩ | exact ⟨rfl, _, Eq.trans (World.drewN_drewN _ _ _) (congrArg (World.drewN _) (Nat.add_assoc _ _ _))⟩); have hcz23_0 : w20.cell? ⟨gb126, 0, none⟩ = some (.string a0_0) := (blk_cell BK126.out 0).trans rfl; have hcz23_1 : w20.cell? ⟨gb126, 1, none⟩ = some (.slice (some ad128) l0_1.length c0_1) := (blk_cell BK126.out 1).trans rfl; have hfz23_0 := blk_frozen BK126.out 0; have hfz23_1 := blk_frozen BK126.out 1; have p132 : 0 ≤ ((ji12) : Int) := of_decide_eq_true u2_; have q132 : (ji12) < (l0_1.length : Int) := of_decide_eq_true u2_; obtain ⟨ad132, e132, hx132_0, hx132_1⟩ := at_T46 HR0_1.out (ji12) p132 q132; obtain rfl : ad128 = ad132 := (by injection e132); have hn132_0 : ad128.block ≠ gb129 := Nat.ne_of_lt (Nat.lt_of_lt_of_le (by have := World.block_lt_of_cell? _ _ hx132_0; first | rwa [add_block] at this | exact this) GW129.out); have hn132_1 : ad128.block ≠ gb129 := Nat.ne_of_lt (Nat.lt_of_lt_of_le (by have := World.block_lt_of_cell? _ _ hx132_0; first | rwa [add_block] at this | exact this) GW129.out); replace hx132_0 := (HB.out.cell (World.block_lt_of_cell? w _ hx132_0)).trans hx132_0; replace hx132_1 := (HB.out.cell (World.block_lt_of_cell? w _ hx132_1)).trans hx132_1; replace hx132_0 := (cell_far (p := ⟨gb129, 0, none⟩) u30_ (.string ((rd_T46 l0_1 x8_1).f0))).trans hx132_0; replace hx132_1 := (cell_far (p := ⟨gb129, 0, none⟩) u30_ (.string ((rd_T46 l0_1 x8_1).f0))).trans hx132_1; replace hx132_0 := (cell_far (p := ⟨gb129, 1, none⟩) u31_ (.string ((rd_T46 l0_1 x8_1).f1))).trans hx132_0; replace hx132_1 := (cell_far (p := ⟨gb129, 1, none⟩) u31_ (.string ((rd_T46 l0_1 x8_1).f1))).trans hx132_1; (try have hy132_0 := fun (n_ : Nat) => (show ((((w20.drewN n_).setCell ⟨gb129, 0, none⟩ (.string ((rd_T46 l0_1 x8_1).f0))).setCell ⟨gb129, 1, none⟩ (.string ((rd_T46 l0_1 x8_1).f1)))).cell? _ = some _ from hx132_0)); (try have hy132_1 := fun (n_ : Nat) => (show ((((w20.drewN n_).setCell ⟨gb129, 0, none⟩ (.string ((rd_T46 l0_1 x8_1).f0))).setCell ⟨gb129, 1, none⟩ (.string ((rd_T46 l0_1 x8_1).f1)))).cell? _ = some _ from hx132_1)); clear hn132_0; clear hn132_1; replace p132 := eq_true p132; replace q132 := eq_true q132))
            repeat (go_quiet (first | ((with_reducible refine gate_dst (N := 4) rfl ?_); (try (refine gate_guard u39_ ?_; dsimp only)); refine box_event ?hg (N := 4) ?hd (cs := #[.string (⟨#[]⟩ : ByteArray), .string (⟨#[]⟩ : ByteArray)]) (t := 46) ?hr ?_; (case hd => rfl); (case hg => rfl); (case hr => first | (go_simp; done) | (go_simp; rfl)); intro gb129 hg w20 hbox hb; have n0_ := Aside0.mk (blk_below (g := gb126) (o := .cells #[.string a0_0, .slice (some ad128) l0_1.length c0_1] 41 (0, 0)) u8_ hb); have n1_ := Aside0.mk (below_step u6_ hb); have n2_ := Aside0.mk (hbox); have n3_ := Aside0.mk ((by rw [hg]; exact (below_size u6_) : w.heap.size ≤ gb129)); have n4_ := n3_; have n5_ := Aside0.mk ((by rw [hg]; exact Nat.ne_of_lt (blk_lt (g := gb126) (o := .cells #[.string a0_0, .slice (some ad128) l0_1.length c0_1] 41 (0, 0)) u8_) : gb126 ≠ gb129)); have n6_ := Aside0.mk ((by rw [hg]; exact Nat.ne_of_gt (blk_lt (g := gb126) (o := .cells #[.string a0_0, .slice (some ad128) l0_1.length c0_1] 41 (0, 0)) u8_) : gb129 ≠ gb126)); clear BK126; clear HB; have BK126 := n0_; have HB := n1_; have BK129 := n2_; have GW129 := n3_; have GE129 := n4_; have NB126_129 := n5_; have NB129_126 := n6_; clear n0_ n1_ n2_ n3_ n4_ n5_ n6_; clear hb hbox hg; have hnb21 := NB129_126.out; have hnc21 := NB126_129.out; have hcz22_0 : w20.cell? ⟨gb129, 0, none⟩ = some (.string (⟨#[]⟩ : ByteArray)) := (blk_cell BK129.out 0).trans rfl; have hcz22_1 : w20.cell? ⟨gb129, 1, none⟩ = some (.string (⟨#[]⟩ : ByteArray)) := (blk_cell BK129.out 1).trans rfl; have hfz22_0 := blk_frozen BK129.out 0; have hfz22_1 := blk_frozen BK129.out 1) | (go_at_call 66; (with_reducible refine (impl_NameOk.calls k1 ((rd_T46 l0_1 x8_1).f0) true _ A7.out).mono ?_); rintro e w' ⟨rfl, ⟨nd, rfl⟩⟩; (try first | exact ⟨rfl, _, World.drewN_drewN _ _ _⟩ | exact ⟨rfl, _, Eq.trans (World.drewN_drewN _ _ _) (congrArg (World.drewN _) (Nat.add_assoc _ _ _))⟩)) | (go_at_call 89; (with_reducible refine (impl_textOk.calls k1 ((rd_T46 l0_1 x8_1).f1) true _ A9.out).mono ?_); rintro e w' ⟨rfl, ⟨nd, rfl⟩⟩; (try first | exact ⟨rfl, _, World.drewN_drewN _ _ _⟩ | exact ⟨rfl, _, Eq.trans (World.drewN_drewN _ _ _) (congrArg (World.drewN _) (Nat.add_assoc _ _ _))⟩); have hcz23_0 : w20.cell? ⟨gb126, 0, none⟩ = some (.string a0_0) := (blk_cell BK126.out 0).trans rfl; have hcz23_1 : w20.cell? ⟨gb126, 1, none⟩ = some (.slice (some ad128) l0_1.length c0_1) := (blk_cell BK126.out 1).trans rfl; have hfz23_0 := blk_frozen BK126.out 0; have hfz23_1 := blk_frozen BK126.out 1; have p132 : 0 ≤ ((ji12) : Int) := of_decide_eq_true u2_; have q132 : (ji12) < (l0_1.length : Int) := of_decide_eq_true u2_; obtain ⟨ad132, e132, hx132_0, hx132_1⟩ := at_T46 HR0_1.out (ji12) p132 q132; obtain rfl : ad128 = ad132 := (by injection e132); have hn132_0 : ad128.block ≠ gb129 := Nat.ne_of_lt (Nat.lt_of_lt_of_le (by have := World.block_lt_of_cell? _ _ hx132_0; first | rwa [add_block] at this | exact this) GW129.out); have hn132_1 : ad128.block ≠ gb129 := Nat.ne_of_lt (Nat.lt_of_lt_of_le (by have := World.block_lt_of_cell? _ _ hx132_0; first | rwa [add_block] at this | exact this) GW129.out); replace hx132_0 := (HB.out.cell (World.block_lt_of_cell? w _ hx132_0)).trans hx132_0; replace hx132_1 := (HB.out.cell (World.block_lt_of_cell? w _ hx132_1)).trans hx132_1; replace hx132_0 := (cell_far (p := ⟨gb129, 0, none⟩) u30_ (.string ((rd_T46 l0_1 x8_1).f0))).trans hx132_0; replace hx132_1 := (cell_far (p := ⟨gb129, 0, none⟩) u30_ (.string ((rd_T46 l0_1 x8_1).f0))).trans hx132_1; replace hx132_0 := (cell_far (p := ⟨gb129, 1, none⟩) u31_ (.string ((rd_T46 l0_1 x8_1).f1))).trans hx132_0; replace hx132_1 := (cell_far (p := ⟨gb129, 1, none⟩) u31_ (.string ((rd_T46 l0_1 x8_1).f1))).trans hx132_1; (try have hy132_0 := fun (n_ : Nat) => (show ((((w20.drewN n_).setCell ⟨gb129, 0, none⟩ (.string ((rd_T46 l0_1 x8_1).f0))).setCell ⟨gb129, 1, none⟩ (.string ((rd_T46 l0_1 x8_1).f1)))).cell? _ = some _ from hx132_0)); (try have hy132_1 := fun (n_ : Nat) => (show ((((w20.drewN n_).setCell ⟨gb129, 0, none⟩ (.string ((rd_T46 l0_1 x8_1).f0))).setCell ⟨gb129, 1, none⟩ (.string ((rd_T46 l0_1 x8_1).f1)))).cell? _ = some _ from hx132_1)); clear hn132_0; clear hn132_1; replace p132 := eq_true p132; replace q132 := eq_true q132)); try go_wp2_with (first | ((with_reducible refine gate_dst (N := 4) rfl ?_); (try (refine gate_guard u39_ ?_; dsimp only)); refine box_event ?hg (N := 4) ?hd (cs := #[.string (⟨#[]⟩ : ByteArray), .string (⟨#[]⟩ : ByteArray)]) (t := 46) ?hr ?_; (case hd => rfl); (case hg => rfl); (case hr => first | (go_simp; done) | (go_simp; rfl)); intro gb129 hg w20 hbox hb; have n0_ := Aside0.mk (blk_below (g := gb126) (o := .cells #[.string a0_0, .slice (some ad128) l0_1.length c0_1] 41 (0, 0)) u8_ hb); have n1_ := Aside0.mk (below_step u6_ hb); have n2_ := Aside0.mk (hbox); have n3_ := Aside0.mk ((by rw [hg]; exact (below_size u6_) : w.heap.size ≤ gb129)); have n4_ := Aside0.mk ((by rw [hg]; exact (below_size u6_) : w.heap.size ≤ gb129)); have n5_ := Aside0.mk ((by rw [hg]; exact Nat.ne_of_lt (blk_lt (g := gb126) (o := .cells #[.string a0_0, .slice (some ad128) l0_1.length c0_1] 41 (0, 0)) u8_) : gb126 ≠ gb129)); have n6_ := Aside0.mk ((by rw [hg]; exact Nat.ne_of_gt (blk_lt (g := gb126) (o := .cells #[.string a0_0, .slice (some ad128) l0_1.length c0_1] 41 (0, 0)) u8_) : gb129 ≠ gb126)); clear BK126; clear HB; have BK126 := n0_; have HB := n1_; have BK129 := n2_; have GW129 := n3_; have GE129 := n4_; have NB126_129 := n5_; have NB129_126 := n6_; clear n0_ n1_ n2_ n3_ n4_ n5_ n6_; clear hb hbox hg; have hnb21 := NB129_126.out; have hnc21 := NB126_129.out; have hcz22_0 : w20.cell? ⟨gb129, 0, none⟩ = some (.string (⟨#[]⟩ : ByteArray)) := (blk_cell BK129.out 0).trans rfl; have hcz22_1 : w20.cell? ⟨gb129, 1, none⟩ = some (.string (⟨#[]⟩ : ByteArray)) := (blk_cell BK129.out 1).trans rfl; have hfz22_0 := blk_frozen BK129.out 0; have hfz22_1 := blk_frozen BK129.out 1) | (go_at_call 66; (with_reducible refine (impl_NameOk.calls k1 ((rd_T46 l0_1 x8_1).f0) true _ A7.out).mono ?_); rintro e w' ⟨rfl, ⟨nd, rfl⟩⟩; (try first | exact ⟨rfl, _, World.drewN_drewN _ _ _⟩ | exact ⟨rfl, _, Eq.trans (World.drewN_drewN _ _ _) (congrArg (World.drewN _) (Nat.add_assoc _ _ _))⟩)) | (go_at_call 89; (with_reducible refine (impl_textOk.calls k1 ((rd_T46 l0_1 x8_1).f1) true _ A9.out).mono ?_); rintro e w' ⟨rfl, ⟨nd, rfl⟩⟩; (try first | exact ⟨rfl, _, World.drewN_drewN _ _ _⟩ | exact ⟨rfl, _, Eq.trans (World.drewN_drewN _ _ _) (congrArg (World.drewN _) (Nat.add_assoc _ _ _))⟩); have hcz23_0 : w20.cell? ⟨gb126, 0, none⟩ = some (.string a0_0) := (blk_cell BK126.out 0).trans rfl; have hcz23_1 : w20.cell? ⟨gb126, 1, none⟩ = some (.slice (some ad128) l0_1.length c0_1) := (blk_cell BK126.out 1).trans rfl; have hfz23_0 := blk_frozen BK126.out 0; have hfz23_1 := blk_frozen BK126.out 1; have p132 : 0 ≤ ((ji12) : Int) := of_decide_eq_true u2_; have q132 : (ji12) < (l0_1.length : Int) := of_decide_eq_true u2_; obtain ⟨ad132, e132, hx132_0, hx132_1⟩ := at_T46 HR0_1.out (ji12) p132 q132; obtain rfl : ad128 = ad132 := (by injection e132); have hn132_0 : ad128.block ≠ gb129 := Nat.ne_of_lt (Nat.lt_of_lt_of_le (by have := World.block_lt_of_cell? _ _ hx132_0; first | rwa [add_block] at this | exact this) GW129.out); have hn132_1 : ad128.block ≠ gb129 := Nat.ne_of_lt (Nat.lt_of_lt_of_le (by have := World.block_lt_of_cell? _ _ hx132_0; first | rwa [add_block] at this | exact this) GW129.out); replace hx132_0 := (HB.out.cell (World.block_lt_of_cell? w _ hx132_0)).trans hx132_0; replace hx132_1 := (HB.out.cell (World.block_lt_of_cell? w _ hx132_1)).trans hx132_1; replace hx132_0 := (cell_far (p := ⟨gb129, 0, none⟩) u30_ (.string ((rd_T46 l0_1 x8_1).f0))).trans hx132_0; replace hx132_1 := (cell_far (p := ⟨gb129, 0, none⟩) u30_ (.string ((rd_T46 l0_1 x8_1).f0))).trans hx132_1; replace hx132_0 := (cell_far (p := ⟨gb129, 1, none⟩) u31_ (.string ((rd_T46 l0_1 x8_1).f1))).trans hx132_0; replace hx132_1 := (cell_far (p := ⟨gb129, 1, none⟩) u31_ (.string ((rd_T46 l0_1 x8_1).f1))).trans hx132_1; (try have hy132_0 := fun (n_ : Nat) => (show ((((w20.drewN n_).setCell ⟨gb129, 0, none⟩ (.string ((rd_T46 l0_1 x8_1).f0))).setCell ⟨gb129, 1, none⟩ (.string ((rd_T46 l0_1 x8_1).f1)))).cell? _ = some _ from hx132_0)); (try have hy132_1 := fun (n_ : Nat) => (show ((((w20.drewN n_).setCell ⟨gb129, 0, none⟩ (.string ((rd_T46 l0_1 x8_1).f0))).setCell ⟨gb129, 1, none⟩ (.string ((rd_T46 l0_1 x8_1).f1)))).cell? _ = some _ from hx132_1)); clear hn132_0; clear hn132_1; replace p132 := eq_true p132; replace q132 := eq_true q132)))
            go_ret
            exact ⟨by first | rfl | (simp [errW_none, errW_some] <;> rfl) | (simp only [← hji12]; first | rfl | (simp [errW_none, errW_some] <;> rfl)) | (simp [*, errW_none, errW_some] <;> rfl) | (simp; exact isEmpty_bne _), u45_⟩
          ·rw [if_neg c14] at H
           exact absurd H u75_
         ·rw [if_neg c13] at H
          exact absurd H u75_
        ·rw [if_neg c11] at H
         have c11b0 : decide (0 < x8_1) = false := decide_eq_false c11
         clear c11
         have H' := Aside0.mk H
         clear H
         have p128 : 0 ≤ (x8_1 : Int) := of_decide_eq_true u2_
         have q128 : x8_1 < (l0_1.length : Int) := of_decide_eq_true u2_
         obtain ⟨ad128, e128, hx128_0, hx128_1⟩ := at_T46 HR0_1.out x8_1 p128 q128
         cases e128
         replace hx128_0 := (HB.out.cell (World.block_lt_of_cell? w _ hx128_0)).trans hx128_0
         replace hx128_1 := (HB.out.cell (World.block_lt_of_cell? w _ hx128_1)).trans hx128_1
         replace p128 := eq_true p128
         replace q128 := eq_true q128
         go_wp2_with (first | ((with_reducible refine gate_dst (N := 4) rfl ?_); (try (refine gate_guard u39_ ?_; dsimp only)); refine box_event ?hg (N := 4) ?hd (cs := #[.string (⟨#[]⟩ : ByteArray), .string (⟨#[]⟩ : ByteArray)]) (t := 46) ?hr ?_; (case hd => rfl); (case hg => rfl); (case hr => first | (go_simp; done) | (go_simp; rfl)); intro gb129 hg w24 hbox hb; have n0_ := Aside0.mk (blk_below (g := gb126) (o := .cells #[.string a0_0, .slice (some ad128) l0_1.length c0_1] 41 (0, 0)) u8_ hb); have n1_ := Aside0.mk (below_step u6_ hb); have n2_ := Aside0.mk (hbox); have n3_ := Aside0.mk ((by rw [hg]; exact (below_size u6_) : w.heap.size ≤ gb129)); have n4_ := n3_; have n5_ := Aside0.mk ((by rw [hg]; exact Nat.ne_of_lt (blk_lt (g := gb126) (o := .cells #[.string a0_0, .slice (some ad128) l0_1.length c0_1] 41 (0, 0)) u8_) : gb126 ≠ gb129)); have n6_ := Aside0.mk ((by rw [hg]; exact Nat.ne_of_gt (blk_lt (g := gb126) (o := .cells #[.string a0_0, .slice (some ad128) l0_1.length c0_1] 41 (0, 0)) u8_) : gb129 ≠ gb126)); clear BK126; clear HB; have BK126 := n0_; have HB := n1_; have BK129 := n2_; have GW129 := n3_; have GE129 := n4_; have NB126_129 := n5_; have NB129_126 := n6_; clear n0_ n1_ n2_ n3_ n4_ n5_ n6_; clear hb hbox hg; have hnb25 := NB129_126.out; have hnc25 := NB126_129.out; have hcz26_0 : w24.cell? ⟨gb129, 0, none⟩ = some (.string (⟨#[]⟩ : ByteArray)) := (blk_cell BK129.out 0).trans rfl; have hcz26_1 : w24.cell? ⟨gb129, 1, none⟩ = some (.string (⟨#[]⟩ : ByteArray)) := (blk_cell BK129.out 1).trans rfl; have hfz26_0 := blk_frozen BK129.out 0; have hfz26_1 := blk_frozen BK129.out 1) | (go_at_call 66; (with_reducible refine (impl_NameOk.calls k1 ((rd_T46 l0_1 x8_1).f0) true _ A7.out).mono ?_); rintro e w' ⟨rfl, ⟨nd, rfl⟩⟩; (try first | exact ⟨rfl, _, World.drewN_drewN _ _ _⟩ | exact ⟨rfl, _, Eq.trans (World.drewN_drewN _ _ _) (congrArg (World.drewN _) (Nat.add_assoc _ _ _))⟩)) | (go_at_call 89; (with_reducible refine (impl_textOk.calls k1 ((rd_T46 l0_1 x8_1).f1) true _ A9.out).mono ?_); rintro e w' ⟨rfl, ⟨nd, rfl⟩⟩; (try first | exact ⟨rfl, _, World.drewN_drewN _ _ _⟩ | exact ⟨rfl, _, Eq.trans (World.drewN_drewN _ _ _) (congrArg (World.drewN _) (Nat.add_assoc _ _ _))⟩)))
         repeat (go_quiet (first | ((with_reducible refine gate_dst (N := 4) rfl ?_); (try (refine gate_guard u39_ ?_; dsimp only)); refine box_event ?hg (N := 4) ?hd (cs := #[.string (⟨#[]⟩ : ByteArray), .string (⟨#[]⟩ : ByteArray)]) (t := 46) ?hr ?_; (case hd => rfl); (case hg => rfl); (case hr => first | (go_simp; done) | (go_simp; rfl)); intro gb129 hg w24 hbox hb; have n0_ := Aside0.mk (blk_below (g := gb126) (o := .cells #[.string a0_0, .slice (some ad128) l0_1.length c0_1] 41 (0, 0)) u8_ hb); have n1_ := Aside0.mk (below_step u6_ hb); have n2_ := Aside0.mk (hbox); have n3_ := Aside0.mk ((by rw [hg]; exact (below_size u6_) : w.heap.size ≤ gb129)); have n4_ := n3_; have n5_ := Aside0.mk ((by rw [hg]; exact Nat.ne_of_lt (blk_lt (g := gb126) (o := .cells #[.string a0_0, .slice (some ad128) l0_1.length c0_1] 41 (0, 0)) u8_) : gb126 ≠ gb129)); have n6_ := Aside0.mk ((by rw [hg]; exact Nat.ne_of_gt (blk_lt (g := gb126) (o := .cells #[.string a0_0, .slice (some ad128) l0_1.length c0_1] 41 (0, 0)) u8_) : gb129 ≠ gb126)); clear BK126; clear HB; have BK126 := n0_; have HB := n1_; have BK129 := n2_; have GW129 := n3_; have GE129 := n4_; have NB126_129 := n5_; have NB129_126 := n6_; clear n0_ n1_ n2_ n3_ n4_ n5_ n6_; clear hb hbox hg; have hnb25 := NB129_126.out; have hnc25 := NB126_129.out; have hcz26_0 : w24.cell? ⟨gb129, 0, none⟩ = some (.string (⟨#[]⟩ : ByteArray)) := (blk_cell BK129.out 0).trans rfl; have hcz26_1 : w24.cell? ⟨gb129, 1, none⟩ = some (.string (⟨#[]⟩ : ByteArray)) := (blk_cell BK129.out 1).trans rfl; have hfz26_0 := blk_frozen BK129.out 0; have hfz26_1 := blk_frozen BK129.out 1) | (go_at_call 66; (with_reducible refine (impl_NameOk.calls k1 ((rd_T46 l0_1 x8_1).f0) true _ A7.out).mono ?_); rintro e w' ⟨rfl, ⟨nd, rfl⟩⟩; (try first | exact ⟨rfl, _, World.drewN_drewN _ _ _⟩ | exact ⟨rfl, _, Eq.trans (World.drewN_drewN _ _ _) (congrArg (World.drewN _) (Nat.add_assoc _ _ _))⟩)) | (go_at_call 89; (with_reducible refine (impl_textOk.calls k1 ((rd_T46 l0_1 x8_1).f1) true _ A9.out).mono ?_); rintro e w' ⟨rfl, ⟨nd, rfl⟩⟩; (try first | exact ⟨rfl, _, World.drewN_drewN _ _ _⟩ | exact ⟨rfl, _, Eq.trans (World.drewN_drewN _ _ _) (congrArg (World.drewN _) (Nat.add_assoc _ _ _))⟩))); try go_wp2_with (first | ((with_reducible refine gate_dst (N := 4) rfl ?_); (try (refine gate_guard u39_ ?_; dsimp only)); refine box_event ?hg (N := 4) ?hd (cs := #[.string (⟨#[]⟩ : ByteArray), .string (⟨#[]⟩ : ByteArray)]) (t := 46) ?hr ?_; (case hd => rfl); (case hg => rfl); (case hr => first | (go_simp; done) | (go_simp; rfl)); intro gb129 hg w24 hbox hb; have n0_ := Aside0.mk (blk_below (g := gb126) (o := .cells #[.string a0_0, .slice (some ad128) l0_1.length c0_1] 41 (0, 0)) u8_ hb); have n1_ := Aside0.mk (below_step u6_ hb); have n2_ := Aside0.mk (hbox); have n3_ := Aside0.mk ((by rw [hg]; exact (below_size u6_) : w.heap.size ≤ gb129)); have n4_ := Aside0.mk ((by rw [hg]; exact (below_size u6_) : w.heap.size ≤ gb129)); have n5_ := Aside0.mk ((by rw [hg]; exact Nat.ne_of_lt (blk_lt (g := gb126) (o := .cells #[.string a0_0, .slice (some ad128) l0_1.length c0_1] 41 (0, 0)) u8_) : gb126 ≠ gb129)); have n6_ := Aside0.mk ((by rw [hg]; exact Nat.ne_of_gt (blk_lt (g := gb126) (o := .cells #[.string a0_0, .slice (some ad128) l0_1.length c0_1] 41 (0, 0)) u8_) : gb129 ≠ gb126)); clear BK126; clear HB; have BK126 := n0_; have HB := n1_; have BK129 := n2_; have GW129 := n3_; have GE129 := n4_; have NB126_129 := n5_; have NB129_126 := n6_; clear n0_ n1_ n2_ n3_ n4_ n5_ n6_; clear hb hbox hg; have hnb25 := NB129_126.out; have hnc25 := NB126_129.out; have hcz26_0 : w24.cell? ⟨gb129, 0, none⟩ = some (.string (⟨#[]⟩ : ByteArray)) := (blk_cell BK129.out 0).trans rfl; have hcz26_1 : w24.cell? ⟨gb129, 1, none⟩ = some (.string (⟨#[]⟩ : ByteArray)) := (blk_cell BK129.out 1).trans rfl; have hfz26_0 := blk_frozen BK129.out 0; have hfz26_1 := blk_frozen BK129.out 1) | (go_at_call 66; (with_reducible refine (impl_NameOk.calls k1 ((rd_T46 l0_1 x8_1).f0) true _ A7.out).mono ?_); rintro e w' ⟨rfl, ⟨nd, rfl⟩⟩; (try first | exact ⟨rfl, _, World.drewN_drewN _ _ _⟩ | exact ⟨rfl, _, Eq.trans (World.drewN_drewN _ _ _) (congrArg (World.drewN _) (Nat.add_assoc _ _ _))⟩)) | (go_at_call 89; (with_reducible refine (impl_textOk.calls k1 ((rd_T46 l0_1 x8_1).f1) true _ A9.out).mono ?_); rintro e w' ⟨rfl, ⟨nd, rfl⟩⟩; (try first | exact ⟨rfl, _, World.drewN_drewN _ _ _⟩ | exact ⟨rfl, _, Eq.trans (World.drewN_drewN _ _ _) (congrArg (World.drewN _) (Nat.add_assoc _ _ _))⟩))))
         go_roundg k1
         case measure => have := HK1.out; omega
         case rel => exact ⟨(wrap64 (x8_1 + 1)), u16_, H', ⟨u65_⟩, ⟨u73_⟩, ⟨u45_⟩⟩
       ·replace c10 := Bool.eq_false_iff.mpr c10
        subst c10
        have H1 : (some false) = some r := by rw [if_neg (show ¬ (false = true) by decide)] at H; exact H
        clear H
        have H := H1
        clear H1
        obtain rfl := Option.some.inj H
        have p128 : 0 ≤ (x8_1 : Int) := of_decide_eq_true u2_
        have q128 : x8_1 < (l0_1.length : Int) := of_decide_eq_true u2_
        obtain ⟨ad128, e128, hx128_0, hx128_1⟩ := at_T46 HR0_1.out x8_1 p128 q128
        cases e128
        replace hx128_0 := (HB.out.cell (World.block_lt_of_cell? w _ hx128_0)).trans hx128_0
        replace hx128_1 := (HB.out.cell (World.block_lt_of_cell? w _ hx128_1)).trans hx128_1
        replace p128 := eq_true p128
        replace q128 := eq_true q128
        go_wp2_with (first | ((with_reducible refine gate_dst (N := 4) rfl ?_); (try (refine gate_guard u39_ ?_; dsimp only)); refine box_event ?hg (N := 4) ?hd (cs := #[.string (⟨#[]⟩ : ByteArray), .string (⟨#[]⟩ : ByteArray)]) (t := 46) ?hr ?_; (case hd => rfl); (case hg => rfl); (case hr => first | (go_simp; done) | (go_simp; rfl)); intro gb129 hg w27 hbox hb; have n0_ := Aside0.mk (blk_below (g := gb126) (o := .cells #[.string a0_0, .slice (some ad128) l0_1.length c0_1] 41 (0, 0)) u8_ hb); have n1_ := Aside0.mk (below_step u6_ hb); have n2_ := Aside0.mk (hbox); have n3_ := Aside0.mk ((by rw [hg]; exact (below_size u6_) : w.heap.size ≤ gb129)); have n4_ := n3_; have n5_ := Aside0.mk ((by rw [hg]; exact Nat.ne_of_lt (blk_lt (g := gb126) (o := .cells #[.string a0_0, .slice (some ad128) l0_1.length c0_1] 41 (0, 0)) u8_) : gb126 ≠ gb129)); have n6_ := Aside0.mk ((by rw [hg]; exact Nat.ne_of_gt (blk_lt (g := gb126) (o := .cells #[.string a0_0, .slice (some ad128) l0_1.length c0_1] 41 (0, 0)) u8_) : gb129 ≠ gb126)); clear BK126; clear HB; have BK126 := n0_; have HB := n1_; have BK129 := n2_; have GW129 := n3_; have GE129 := n4_; have NB126_129 := n5_; have NB129_126 := n6_; clear n0_ n1_ n2_ n3_ n4_ n5_ n6_; clear hb hbox hg; have hnb28 := NB129_126.out; have hnc28 := NB126_129.out; have hcz29_0 : w27.cell? ⟨gb129, 0, none⟩ = some (.string (⟨#[]⟩ : ByteArray)) := (blk_cell BK129.out 0).trans rfl; have hcz29_1 : w27.cell? ⟨gb129, 1, none⟩ = some (.string (⟨#[]⟩ : ByteArray)) := (blk_cell BK129.out 1).trans rfl; have hfz29_0 := blk_frozen BK129.out 0; have hfz29_1 := blk_frozen BK129.out 1) | (go_at_call 66; (with_reducible refine (impl_NameOk.calls k1 ((rd_T46 l0_1 x8_1).f0) true _ A7.out).mono ?_); rintro e w' ⟨rfl, ⟨nd, rfl⟩⟩; (try first | exact ⟨rfl, _, World.drewN_drewN _ _ _⟩ | exact ⟨rfl, _, Eq.trans (World.drewN_drewN _ _ _) (congrArg (World.drewN _) (Nat.add_assoc _ _ _))⟩)) | (go_at_call 89; (with_reducible refine (impl_textOk.calls k1 ((rd_T46 l0_1 x8_1).f1) false _ A9.out).mono ?_); rintro e w' ⟨rfl, ⟨nd, rfl⟩⟩; (try first | exact ⟨rfl, _, World.drewN_drewN _ _ _⟩ | exact ⟨rfl, _, Eq.trans (World.drewN_drewN _ _ _) (congrArg (World.drewN _) (Nat.add_assoc _ _ _))⟩)))
        repeat (go_quiet (first | ((with_reducible refine gate_dst (N := 4) rfl ?_); (try (refine gate_guard u39_ ?_; dsimp only)); refine box_event ?hg (N := 4) ?hd (cs := #[.string (⟨#[]⟩ : ByteArray), .string (⟨#[]⟩ : ByteArray)]) (t := 46) ?hr ?_; (case hd => rfl); (case hg => rfl); (case hr => first | (go_simp; done) | (go_simp; rfl)); intro gb129 hg w27 hbox hb; have n0_ := Aside0.mk (blk_below (g := gb126) (o := .cells #[.string a0_0, .slice (some ad128) l0_1.length c0_1] 41 (0, 0)) u8_ hb); have n1_ := Aside0.mk (below_step u6_ hb); have n2_ := Aside0.mk (hbox); have n3_ := Aside0.mk ((by rw [hg]; exact (below_size u6_) : w.heap.size ≤ gb129)); have n4_ := n3_; have n5_ := Aside0.mk ((by rw [hg]; exact Nat.ne_of_lt (blk_lt (g := gb126) (o := .cells #[.string a0_0, .slice (some ad128) l0_1.length c0_1] 41 (0, 0)) u8_) : gb126 ≠ gb129)); have n6_ := Aside0.mk ((by rw [hg]; exact Nat.ne_of_gt (blk_lt (g := gb126) (o := .cells #[.string a0_0, .slice (some ad128) l0_1.length c0_1] 41 (0, 0)) u8_) : gb129 ≠ gb126)); clear BK126; clear HB; have BK126 := n0_; have HB := n1_; have BK129 := n2_; have GW129 := n3_; have GE129 := n4_; have NB126_129 := n5_; have NB129_126 := n6_; clear n0_ n1_ n2_ n3_ n4_ n5_ n6_; clear hb hbox hg; have hnb28 := NB129_126.out; have hnc28 := NB126_129.out; have hcz29_0 : w27.cell? ⟨gb129, 0, none⟩ = some (.string (⟨#[]⟩ : ByteArray)) := (blk_cell BK129.out 0).trans rfl; have hcz29_1 : w27.cell? ⟨gb129, 1, none⟩ = some (.string (⟨#[]⟩ : ByteArray)) := (blk_cell BK129.out 1).trans rfl; have hfz29_0 := blk_frozen BK129.out 0; have hfz29_1 := blk_frozen BK129.out 1) | (go_at_call 66; (with_reducible refine (impl_NameOk.calls k1 ((rd_T46 l0_1 x8_1).f0) true _ A7.out).mono ?_); rintro e w' ⟨rfl, ⟨nd, rfl⟩⟩; (try first | exact ⟨rfl, _, World.drewN_drewN _ _ _⟩ | exact ⟨rfl, _, Eq.trans (World.drewN_drewN _ _ _) (congrArg (World.drewN _) (Nat.add_assoc _ _ _))⟩)) | (go_at_call 89; (with_reducible refine (impl_textOk.calls k1 ((rd_T46 l0_1 x8_1).f1) false _ A9.out).mono ?_); rintro e w' ⟨rfl, ⟨nd, rfl⟩⟩; (try first | exact ⟨rfl, _, World.drewN_drewN _ _ _⟩ | exact ⟨rfl, _, Eq.trans (World.drewN_drewN _ _ _) (congrArg (World.drewN _) (Nat.add_assoc _ _ _))⟩))); try go_wp2_with (first | ((with_reducible refine gate_dst (N := 4) rfl ?_); (try (refine gate_guard u39_ ?_; dsimp only)); refine box_event ?hg (N := 4) ?hd (cs := #[.string (⟨#[]⟩ : ByteArray), .string (⟨#[]⟩ : ByteArray)]) (t := 46) ?hr ?_; (case hd => rfl); (case hg => rfl); (case hr => first | (go_simp; done) | (go_simp; rfl)); intro gb129 hg w27 hbox hb; have n0_ := Aside0.mk (blk_below (g := gb126) (o := .cells #[.string a0_0, .slice (some ad128) l0_1.length c0_1] 41 (0, 0)) u8_ hb); have n1_ := Aside0.mk (below_step u6_ hb); have n2_ := Aside0.mk (hbox); have n3_ := Aside0.mk ((by rw [hg]; exact (below_size u6_) : w.heap.size ≤ gb129)); have n4_ := Aside0.mk ((by rw [hg]; exact (below_size u6_) : w.heap.size ≤ gb129)); have n5_ := Aside0.mk ((by rw [hg]; exact Nat.ne_of_lt (blk_lt (g := gb126) (o := .cells #[.string a0_0, .slice (some ad128) l0_1.length c0_1] 41 (0, 0)) u8_) : gb126 ≠ gb129)); have n6_ := Aside0.mk ((by rw [hg]; exact Nat.ne_of_gt (blk_lt (g := gb126) (o := .cells #[.string a0_0, .slice (some ad128) l0_1.length c0_1] 41 (0, 0)) u8_) : gb129 ≠ gb126)); clear BK126; clear HB; have BK126 := n0_; have HB := n1_; have BK129 := n2_; have GW129 := n3_; have GE129 := n4_; have NB126_129 := n5_; have NB129_126 := n6_; clear n0_ n1_ n2_ n3_ n4_ n5_ n6_; clear hb hbox hg; have hnb28 := NB129_126.out; have hnc28 := NB126_129.out; have hcz29_0 : w27.cell? ⟨gb129, 0, none⟩ = some (.string (⟨#[]⟩ : ByteArray)) := (blk_cell BK129.out 0).trans rfl; have hcz29_1 : w27.cell? ⟨gb129, 1, none⟩ = some (.string (⟨#[]⟩ : ByteArray)) := (blk_cell BK129.out 1).trans rfl; have hfz29_0 := blk_frozen BK129.out 0; have hfz29_1 := blk_frozen BK129.out 1) | (go_at_call 66; (with_reducible refine (impl_NameOk.calls k1 ((rd_T46 l0_1 x8_1).f0) true _ A7.out).mono ?_); rintro e w' ⟨rfl, ⟨nd, rfl⟩⟩; (try first | exact ⟨rfl, _, World.drewN_drewN _ _ _⟩ | exact ⟨rfl, _, Eq.trans (World.drewN_drewN _ _ _) (congrArg (World.drewN _) (Nat.add_assoc _ _ _))⟩)) | (go_at_call 89; (with_reducible refine (impl_textOk.calls k1 ((rd_T46 l0_1 x8_1).f1) false _ A9.out).mono ?_); rintro e w' ⟨rfl, ⟨nd, rfl⟩⟩; (try first | exact ⟨rfl, _, World.drewN_drewN _ _ _⟩ | exact ⟨rfl, _, Eq.trans (World.drewN_drewN _ _ _) (congrArg (World.drewN _) (Nat.add_assoc _ _ _))⟩))))
        go_ret
        exact ⟨u3_, u45_⟩
      ·replace c8 := Bool.eq_false_iff.mpr c8
       subst c8
       have H1 : (some false) = some r := by rw [if_neg (show ¬ (false = true) by decide)] at H; exact H
       clear H
       have H := H1
       clear H1
       obtain rfl := Option.some.inj H
       have p128 : 0 ≤ (x8_1 : Int) := of_decide_eq_true u2_
       have q128 : x8_1 < (l0_1.length : Int) := of_decide_eq_true u2_
       obtain ⟨ad128, e128, hx128_0, hx128_1⟩ := at_T46 HR0_1.out x8_1 p128 q128
       cases e128
       replace hx128_0 := (HB.out.cell (World.block_lt_of_cell? w _ hx128_0)).trans hx128_0
       replace hx128_1 := (HB.out.cell (World.block_lt_of_cell? w _ hx128_1)).trans hx128_1
       replace p128 := eq_true p128
       replace q128 := eq_true q128
       go_wp2_with (first | ((with_reducible refine gate_dst (N := 4) rfl ?_); (try (refine gate_guard u39_ ?_; dsimp only)); refine box_event ?hg (N := 4) ?hd (cs := #[.string (⟨#[]⟩ : ByteArray), .string (⟨#[]⟩ : ByteArray)]) (t := 46) ?hr ?_; (case hd => rfl); (case hg => rfl); (case hr => first | (go_simp; done) | (go_simp; rfl)); intro gb129 hg w30 hbox hb; have n0_ := Aside0.mk (blk_below (g := gb126) (o := .cells #[.string a0_0, .slice (some ad128) l0_1.length c0_1] 41 (0, 0)) u8_ hb); have n1_ := Aside0.mk (below_step u6_ hb); have n2_ := Aside0.mk (hbox); have n3_ := Aside0.mk ((by rw [hg]; exact (below_size u6_) : w.heap.size ≤ gb129)); have n4_ := n3_; have n5_ := Aside0.mk ((by rw [hg]; exact Nat.ne_of_lt (blk_lt (g := gb126) (o := .cells #[.string a0_0, .slice (some ad128) l0_1.length c0_1] 41 (0, 0)) u8_) : gb126 ≠ gb129)); have n6_ := Aside0.mk ((by rw [hg]; exact Nat.ne_of_gt (blk_lt (g := gb126) (o := .cells #[.string a0_0, .slice (some ad128) l0_1.length c0_1] 41 (0, 0)) u8_) : gb129 ≠ gb126)); clear BK126; clear HB; have BK126 := n0_; have HB := n1_; have BK129 := n2_; have GW129 := n3_; have GE129 := n4_; have NB126_129 := n5_; have NB129_126 := n6_; clear n0_ n1_ n2_ n3_ n4_ n5_ n6_; clear hb hbox hg; have hnb31 := NB129_126.out; have hnc31 := NB126_129.out; have hcz32_0 : w30.cell? ⟨gb129, 0, none⟩ = some (.string (⟨#[]⟩ : ByteArray)) := (blk_cell BK129.out 0).trans rfl; have hcz32_1 : w30.cell? ⟨gb129, 1, none⟩ = some (.string (⟨#[]⟩ : ByteArray)) := (blk_cell BK129.out 1).trans rfl; have hfz32_0 := blk_frozen BK129.out 0; have hfz32_1 := blk_frozen BK129.out 1) | (go_at_call 66; (with_reducible refine (impl_NameOk.calls k1 ((rd_T46 l0_1 x8_1).f0) false _ A7.out).mono ?_); rintro e w' ⟨rfl, ⟨nd, rfl⟩⟩; (try first | exact ⟨rfl, _, World.drewN_drewN _ _ _⟩ | exact ⟨rfl, _, Eq.trans (World.drewN_drewN _ _ _) (congrArg (World.drewN _) (Nat.add_assoc _ _ _))⟩)))
       repeat (go_quiet (first | ((with_reducible refine gate_dst (N := 4) rfl ?_); (try (refine gate_guard u39_ ?_; dsimp only)); refine box_event ?hg (N := 4) ?hd (cs := #[.string (⟨#[]⟩ : ByteArray), .string (⟨#[]⟩ : ByteArray)]) (t := 46) ?hr ?_; (case hd => rfl); (case hg => rfl); (case hr => first | (go_simp; done) | (go_simp; rfl)); intro gb129 hg w30 hbox hb; have n0_ := Aside0.mk (blk_below (g := gb126) (o := .cells #[.string a0_0, .slice (some ad128) l0_1.length c0_1] 41 (0, 0)) u8_ hb); have n1_ := Aside0.mk (below_step u6_ hb); have n2_ := Aside0.mk (hbox); have n3_ := Aside0.mk ((by rw [hg]; exact (below_size u6_) : w.heap.size ≤ gb129)); have n4_ := n3_; have n5_ := Aside0.mk ((by rw [hg]; exact Nat.ne_of_lt (blk_lt (g := gb126) (o := .cells #[.string a0_0, .slice (some ad128) l0_1.length c0_1] 41 (0, 0)) u8_) : gb126 ≠ gb129)); have n6_ := Aside0.mk ((by rw [hg]; exact Nat.ne_of_gt (blk_lt (g := gb126) (o := .cells #[.string a0_0, .slice (some ad128) l0_1.length c0_1] 41 (0, 0)) u8_) : gb129 ≠ gb126)); clear BK126; clear HB; have BK126 := n0_; have HB := n1_; have BK129 := n2_; have GW129 := n3_; have GE129 := n4_; have NB126_129 := n5_; have NB129_126 := n6_; clear n0_ n1_ n2_ n3_ n4_ n5_ n6_; clear hb hbox hg; have hnb31 := NB129_126.out; have hnc31 := NB126_129.out; have hcz32_0 : w30.cell? ⟨gb129, 0, none⟩ = some (.string (⟨#[]⟩ : ByteArray)) := (blk_cell BK129.out 0).trans rfl; have hcz32_1 : w30.cell? ⟨gb129, 1, none⟩ = some (.string (⟨#[]⟩ : ByteArray)) := (blk_cell BK129.out 1).trans rfl; have hfz32_0 := blk_frozen BK129.out 0; have hfz32_1 := blk_frozen BK129.out 1) | (go_at_call 66; (with_reducible refine (impl_NameOk.calls k1 ((rd_T46 l0_1 x8_1).f0) false _ A7.out).mono ?_); rintro e w' ⟨rfl, ⟨nd, rfl⟩⟩; (try first | exact ⟨rfl, _, World.drewN_drewN _ _ _⟩ | exact ⟨rfl, _, Eq.trans (World.drewN_drewN _ _ _) (congrArg (World.drewN _) (Nat.add_assoc _ _ _))⟩))); try go_wp2_with (first | ((with_reducible refine gate_dst (N := 4) rfl ?_); (try (refine gate_guard u39_ ?_; dsimp only)); refine box_event ?hg (N := 4) ?hd (cs := #[.string (⟨#[]⟩ : ByteArray), .string (⟨#[]⟩ : ByteArray)]) (t := 46) ?hr ?_; (case hd => rfl); (case hg => rfl); (case hr => first | (go_simp; done) | (go_simp; rfl)); intro gb129 hg w30 hbox hb; have n0_ := Aside0.mk (blk_below (g := gb126) (o := .cells #[.string a0_0, .slice (some ad128) l0_1.length c0_1] 41 (0, 0)) u8_ hb); have n1_ := Aside0.mk (below_step u6_ hb); have n2_ := Aside0.mk (hbox); have n3_ := Aside0.mk ((by rw [hg]; exact (below_size u6_) : w.heap.size ≤ gb129)); have n4_ := Aside0.mk ((by rw [hg]; exact (below_size u6_) : w.heap.size ≤ gb129)); have n5_ := Aside0.mk ((by rw [hg]; exact Nat.ne_of_lt (blk_lt (g := gb126) (o := .cells #[.string a0_0, .slice (some ad128) l0_1.length c0_1] 41 (0, 0)) u8_) : gb126 ≠ gb129)); have n6_ := Aside0.mk ((by rw [hg]; exact Nat.ne_of_gt (blk_lt (g := gb126) (o := .cells #[.string a0_0, .slice (some ad128) l0_1.length c0_1] 41 (0, 0)) u8_) : gb129 ≠ gb126)); clear BK126; clear HB; have BK126 := n0_; have HB := n1_; have BK129 := n2_; have GW129 := n3_; have GE129 := n4_; have NB126_129 := n5_; have NB129_126 := n6_; clear n0_ n1_ n2_ n3_ n4_ n5_ n6_; clear hb hbox hg; have hnb31 := NB129_126.out; have hnc31 := NB126_129.out; have hcz32_0 : w30.cell? ⟨gb129, 0, none⟩ = some (.string (⟨#[]⟩ : ByteArray)) := (blk_cell BK129.out 0).trans rfl; have hcz32_1 : w30.cell? ⟨gb129, 1, none⟩ = some (.string (⟨#[]⟩ : ByteArray)) := (blk_cell BK129.out 1).trans rfl; have hfz32_0 := blk_frozen BK129.out 0; have hfz32_1 := blk_frozen BK129.out 1) | (go_at_call 66; (with_reducible refine (impl_NameOk.calls k1 ((rd_T46 l0_1 x8_1).f0) false _ A7.out).mono ?_); rintro e w' ⟨rfl, ⟨nd, rfl⟩⟩; (try first | exact ⟨rfl, _, World.drewN_drewN _ _ _⟩ | exact ⟨rfl, _, Eq.trans (World.drewN_drewN _ _ _) (congrArg (World.drewN _) (Nat.add_assoc _ _ _))⟩))))
       go_ret
       exact ⟨u3_, u45_⟩
     ·rw [if_neg c6] at H
      exact absurd H u75_
    ·rw [if_neg c5] at H
     exact absurd H u75_
   ·rw [if_neg c4] at H
    have c4b0 : decide (x8_1 < (l0_1.length : Int)) = false := decide_eq_false c4
    clear c4
    replace H := Option.bind_eq_some_iff.mp H
    obtain ⟨t127, A330, H⟩ := H
    replace H : (if t127 = true then (some (decide ((l0_1.length : Int) ≤ 4))) else (some false)) = some r := H
    have A33 := Aside0.mk A330
    clear A330
    by_cases c34 : t127 = true
    ·subst c34
     have H1 : (some (decide ((l0_1.length : Int) ≤ 4))) = some r := by rw [if_pos rfl] at H; exact H
     clear H
     have H := H1
     clear H1
     obtain rfl := Option.some.inj H
     have hcz35_0 : wr.cell? ⟨gb126, 0, none⟩ = some (.string a0_0) := (blk_cell BK126.out 0).trans rfl
     have hcz35_1 : wr.cell? ⟨gb126, 1, none⟩ = some (.slice A0_1 l0_1.length c0_1) := (blk_cell BK126.out 1).trans rfl
     have hfz35_0 := blk_frozen BK126.out 0
     have hfz35_1 := blk_frozen BK126.out 1
     go_wp2_with (first | (go_at_call 66; (with_reducible refine (impl_NameOk.calls k1 a0_0 true _ A33.out).mono ?_); rintro e w' ⟨rfl, ⟨nd, rfl⟩⟩; (try first | exact ⟨rfl, _, World.drewN_drewN _ _ _⟩ | exact ⟨rfl, _, Eq.trans (World.drewN_drewN _ _ _) (congrArg (World.drewN _) (Nat.add_assoc _ _ _))⟩)))
     repeat (go_quiet (first | (go_at_call 66; (with_reducible refine (impl_NameOk.calls k1 a0_0 true _ A33.out).mono ?_); rintro e w' ⟨rfl, ⟨nd, rfl⟩⟩; (try first | exact ⟨rfl, _, World.drewN_drewN _ _ _⟩ | exact ⟨rfl, _, Eq.trans (World.drewN_drewN _ _ _) (congrArg (World.drewN _) (Nat.add_assoc _ _ _))⟩))); try go_wp2_with (first | (go_at_call 66; (with_reducible refine (impl_NameOk.calls k1 a0_0 true _ A33.out).mono ?_); rintro e w' ⟨rfl, ⟨nd, rfl⟩⟩; (try first | exact ⟨rfl, _, World.drewN_drewN _ _ _⟩ | exact ⟨rfl, _, Eq.trans (World.drewN_drewN _ _ _) (congrArg (World.drewN _) (Nat.add_assoc _ _ _))⟩))))
     go_ret
     exact ⟨u3_, u6_⟩
    ·replace c34 := Bool.eq_false_iff.mpr c34
     subst c34
     have H1 : (some false) = some r := by rw [if_neg (show ¬ (false = true) by decide)] at H; exact H
     clear H
     have H := H1
     clear H1
     obtain rfl := Option.some.inj H
     have hcz36_0 : wr.cell? ⟨gb126, 0, none⟩ = some (.string a0_0) := (blk_cell BK126.out 0).trans rfl
     have hcz36_1 : wr.cell? ⟨gb126, 1, none⟩ = some (.slice A0_1 l0_1.length c0_1) := (blk_cell BK126.out 1).trans rfl
     have hfz36_0 := blk_frozen BK126.out 0
     have hfz36_1 := blk_frozen BK126.out 1
     go_wp2_with (first | (go_at_call 66; (with_reducible refine (impl_NameOk.calls k1 a0_0 false _ A33.out).mono ?_); rintro e w' ⟨rfl, ⟨nd, rfl⟩⟩; (try first | exact ⟨rfl, _, World.drewN_drewN _ _ _⟩ | exact ⟨rfl, _, Eq.trans (World.drewN_drewN _ _ _) (congrArg (World.drewN _) (Nat.add_assoc _ _ _))⟩)))
     repeat (go_quiet (first | (go_at_call 66; (with_reducible refine (impl_NameOk.calls k1 a0_0 false _ A33.out).mono ?_); rintro e w' ⟨rfl, ⟨nd, rfl⟩⟩; (try first | exact ⟨rfl, _, World.drewN_drewN _ _ _⟩ | exact ⟨rfl, _, Eq.trans (World.drewN_drewN _ _ _) (congrArg (World.drewN _) (Nat.add_assoc _ _ _))⟩))); try go_wp2_with (first | (go_at_call 66; (with_reducible refine (impl_NameOk.calls k1 a0_0 false _ A33.out).mono ?_); rintro e w' ⟨rfl, ⟨nd, rfl⟩⟩; (try first | exact ⟨rfl, _, World.drewN_drewN _ _ _⟩ | exact ⟨rfl, _, Eq.trans (World.drewN_drewN _ _ _) (congrArg (World.drewN _) (Nat.add_assoc _ _ _))⟩))))
     go_ret
     exact ⟨u3_, u6_⟩

end Go.Proofs.YtelcdhjdlgedeaaDoor.PFnExactDocOk
