/- Contracts of Go functions that the law FnDocOk reaches: each is told as a plain Lean function, with the walk that shows it; no condition beyond what each states. Written by a program of this session round the kit's printer. -/
import Derived.Test.YtelcdhjdlgedeaaDoorVPFnDocOkx0
import Derived.Test.YtelcdhjdlgedeaaDoorVPFnDocOkx1
import Derived.Test.YtelcdhjdlgedeaaDoorVPFnDocOkx8
namespace Go.Proofs.YtelcdhjdlgedeaaDoor.PFnDocOk
open Go.RowKit Go.Proofs.YtelcdhjdlgedeaaDoorW.PrintWords Go.Proofs.YtelcdhjdlgedeaaDoorW.PrintLast Go.Proofs.YtelcdhjdlgedeaaDoorW.PrintMore
attribute [local go_sem] run_str_geq run_str_leq max2_int min2_int max_two min_two max_three min_three max_four min_four   -- for this text's walks alone
set_option linter.unusedVariables false
set_option linter.unusedSimpArgs false

/-! ### spec_FieldsOk: function 32 -/
mutual
def spec_FieldsOk.l0 : Nat → List (S75) → Int → Option (Bool)
 | 0, _, _ => none
 | k + 1, x0, x3 => if x3 < (x0.length : Int) then (if 0 ≤ x3 then (if ((rd_T75 x0 x3).f1) = 1 then ((spec_l1In.f ((rd_T75 x0 x3).f2) 1 9).bind fun t319 => (spec_FieldsOk.j1 k x0 x3 t319 ((rd_T75 x0 x3).f0) ((rd_T75 x0 x3).f1) ((rd_T75 x0 x3).f2))) else (spec_FieldsOk.j1 k x0 x3 false ((rd_T75 x0 x3).f0) ((rd_T75 x0 x3).f1) ((rd_T75 x0 x3).f2))) else (none)) else ((spec_l1In.f (x0.length : Int) 1 4).bind fun t316 => (some t316))
def spec_FieldsOk.j1 : Nat → List (S75) → Int → Bool → ByteArray → Int → Int → Option (Bool)
 | 0, _, _, _, _, _, _ => none
 | k + 1, x0, x3, x5, x319000, x319001, x319002 => (spec_l1In.f x319001 2 3).bind fun t320 => (if t320 = true then (spec_FieldsOk.j2 k x0 x3 x5 (x319002 == 0) x319000 x319001 x319002) else (spec_FieldsOk.j2 k x0 x3 x5 false x319000 x319001 x319002))
def spec_FieldsOk.j2 : Nat → List (S75) → Int → Bool → Bool → ByteArray → Int → Int → Option (Bool)
 | 0, _, _, _, _, _, _, _ => none
 | k + 1, x0, x3, x5, x6, x319000, x319001, x319002 => (spec_NameOk.f k x319000).bind fun t321 => (if t321 = true then ((spec_l2Field.f k x0 x319000).bind fun t322 => (if t322 = x3 then (if x5 = true then (spec_FieldsOk.l0 k x0 (wrap64 (x3 + 1))) else (if x6 = true then (spec_FieldsOk.l0 k x0 (wrap64 (x3 + 1))) else (some false))) else (some false))) else (some false))
end
def spec_FieldsOk.f (k : Nat) (l0 : List (S75)) : Option (Bool) := spec_FieldsOk.l0 k l0 0
theorem spec_FieldsOk.mono_l : ∀ k, (∀ y0 y1, LeO (spec_FieldsOk.l0 k y0 y1) (spec_FieldsOk.l0 (k + 1) y0 y1)) ∧ (∀ y0 y1 y2 y3 y4 y5, LeO (spec_FieldsOk.j1 k y0 y1 y2 y3 y4 y5) (spec_FieldsOk.j1 (k + 1) y0 y1 y2 y3 y4 y5)) ∧ (∀ y0 y1 y2 y3 y4 y5 y6, LeO (spec_FieldsOk.j2 k y0 y1 y2 y3 y4 y5 y6) (spec_FieldsOk.j2 (k + 1) y0 y1 y2 y3 y4 y5 y6))
 | 0 => ⟨fun _ _ r h => by simp [spec_FieldsOk.l0] at h, fun _ _ _ _ _ _ r h => by simp [spec_FieldsOk.j1] at h, fun _ _ _ _ _ _ _ r h => by simp [spec_FieldsOk.j2] at h⟩
 | k + 1 => by
  obtain ⟨ih0, ih1, ih2⟩ := spec_FieldsOk.mono_l k; refine ⟨?_, ?_, ?_⟩
  ·intro y0 y1; unfold spec_FieldsOk.l0
   repeat' first
   | (with_reducible exact ih0 _ _)
   | (with_reducible exact ih1 _ _ _ _ _ _)
   | (with_reducible exact ih2 _ _ _ _ _ _ _)
   | (with_reducible exact spec_NameOk.mono _ _)
   | (with_reducible exact spec_l2Field.mono _ _ _)
   | (with_reducible exact LeO.refl _)
   | (with_reducible exact LeO.none _)
   | (with_reducible refine LeO.ite ?_ ?_)
   | (with_reducible refine LeO.bind ?_ (fun _ => ?_))
   | exact ih0 _ _
   | exact ih1 _ _ _ _ _ _
   | exact ih2 _ _ _ _ _ _ _
   | exact spec_NameOk.mono _ _
   | exact spec_l2Field.mono _ _ _
   | exact LeO.none _
   | refine LeO.ite ?_ ?_
   | refine LeO.bind ?_ (fun _ => ?_)
  ·intro y0 y1 y2 y3 y4 y5; unfold spec_FieldsOk.j1
   repeat' first
   | (with_reducible exact ih0 _ _)
   | (with_reducible exact ih1 _ _ _ _ _ _)
   | (with_reducible exact ih2 _ _ _ _ _ _ _)
   | (with_reducible exact spec_NameOk.mono _ _)
   | (with_reducible exact spec_l2Field.mono _ _ _)
   | (with_reducible exact LeO.refl _)
   | (with_reducible exact LeO.none _)
   | (with_reducible refine LeO.ite ?_ ?_)
   | (with_reducible refine LeO.bind ?_ (fun _ => ?_))
   | exact ih0 _ _
   | exact ih1 _ _ _ _ _ _
   | exact ih2 _ _ _ _ _ _ _
   | exact spec_NameOk.mono _ _
   | exact spec_l2Field.mono _ _ _
   | exact LeO.none _
   | refine LeO.ite ?_ ?_
   | refine LeO.bind ?_ (fun _ => ?_)
  ·intro y0 y1 y2 y3 y4 y5 y6; unfold spec_FieldsOk.j2
   repeat' first
   | (with_reducible exact ih0 _ _)
   | (with_reducible exact ih1 _ _ _ _ _ _)
   | (with_reducible exact ih2 _ _ _ _ _ _ _)
   | (with_reducible exact spec_NameOk.mono _ _)
   | (with_reducible exact spec_l2Field.mono _ _ _)
   | (with_reducible exact LeO.refl _)
   | (with_reducible exact LeO.none _)
   | (with_reducible refine LeO.ite ?_ ?_)
   | (with_reducible refine LeO.bind ?_ (fun _ => ?_))
   | exact ih0 _ _
   | exact ih1 _ _ _ _ _ _
   | exact ih2 _ _ _ _ _ _ _
   | exact spec_NameOk.mono _ _
   | exact spec_l2Field.mono _ _ _
   | exact LeO.none _
   | refine LeO.ite ?_ ?_
   | refine LeO.bind ?_ (fun _ => ?_)
theorem spec_FieldsOk.mono : ∀ a0 k, LeO (spec_FieldsOk.f k a0) (spec_FieldsOk.f (k + 1) a0) := by
 intro a0 k; obtain ⟨ih0, ih1, ih2⟩ := spec_FieldsOk.mono_l k; unfold spec_FieldsOk.f
 repeat' first
   | (with_reducible exact ih0 _ _)
   | (with_reducible exact ih1 _ _ _ _ _ _)
   | (with_reducible exact ih2 _ _ _ _ _ _ _)
   | (with_reducible exact spec_NameOk.mono _ _)
   | (with_reducible exact spec_l2Field.mono _ _ _)
   | (with_reducible exact LeO.refl _)
   | (with_reducible exact LeO.none _)
   | (with_reducible refine LeO.ite ?_ ?_)
   | (with_reducible refine LeO.bind ?_ (fun _ => ?_))
   | exact ih0 _ _
   | exact ih1 _ _ _ _ _ _
   | exact ih2 _ _ _ _ _ _ _
   | exact spec_NameOk.mono _ _
   | exact spec_l2Field.mono _ _ _
   | exact LeO.none _
   | refine LeO.ite ?_ ?_
   | refine LeO.bind ?_ (fun _ => ?_)
set_option maxHeartbeats 8000000 in
set_option maxRecDepth 100000 in
theorem spec_FieldsOk.calls (k : Nat) (A0 : Option Addr) (c0 : Nat) (l0 : List (S75)) (r : Bool) (w : World) (hr0 : Kd.C k75 w A0 l0.length l0) (hc0 : l0.length ≤ c0) (h : spec_FieldsOk.f k l0 = some r) :
  Calls Tryd.prog 32 #[.slice A0 l0.length c0] w fun e w' => e = .returned (.bool r) ∧ Below w.heap.size w w' := by
 have hu75 := Tryd.underlying75; have HR0 := am_ hr0; have HC0 := am_ hc0; clear hr0 hc0; have HB := am_ (Below.refl w.heap.size w); have H : (spec_FieldsOk.l0 k l0 0) = some r := h; clear h; have H' := am_ H; clear H; go_enter Tryd.func32, Tryd.ntmps32
 go_wp2; go_loopg [3] k (fun kq v3 w' => ∃ (x3_1 : Int), v3 = .int .i64 x3_1 ∧ Aside0 (spec_FieldsOk.l0 kq l0 x3_1 = some r) ∧ Aside0 (kq ≤ k) ∧ Aside0 (Below w.heap.size w w'))
 case atStart => exact ⟨(0), u35_, H', ⟨Nat.le_refl _⟩, ⟨u2_⟩⟩
 case round =>
  clear H'; obtain ⟨x3_1, rfl, HA, HK1, HB⟩ := hrel; cases gk with
  | zero => exact absurd HA.out (by simp [spec_FieldsOk.l0])
  | succ k1 =>
   have H := HA.out; clear HA; simp only [spec_FieldsOk.l0] at H; by_cases c2 : x3_1 < (l0.length : Int)
   ·rw [if_pos c2] at H; have c2b0 : decide (x3_1 < (l0.length : Int)) = true := decide_eq_true c2; clear c2; by_cases c3 : 0 ≤ x3_1
    ·rw [if_pos c3] at H; have c3b0 : decide (0 ≤ x3_1) = true := decide_eq_true c3; clear c3; have HC4 := am_ H; clear H; have p317 : 0 ≤ (x3_1 : Int) := of_decide_eq_true u5_; have q317 : x3_1 < (l0.length : Int) := of_decide_eq_true u5_; obtain ⟨ad317, e317, hx317_0, hx317_1, hx317_2⟩ := at_T75 HR0.out x3_1 p317 q317; cases e317; replace hx317_0 := (HB.out.cell (World.block_lt_of_cell? w _ hx317_0)).trans hx317_0; replace hx317_1 := (HB.out.cell (World.block_lt_of_cell? w _ hx317_1)).trans hx317_1; replace hx317_2 := (HB.out.cell (World.block_lt_of_cell? w _ hx317_2)).trans hx317_2; replace p317 := eq_true p317; replace q317 := eq_true q317; go_upto_region 5 with (first | ((with_reducible refine gate_dst (N := 4) rfl ?_); refine box_event ?hg (N := 4) ?hd (cs := #[.string (⟨#[]⟩ : ByteArray), .int .i64 0, .int .i64 0]) (t := 75) ?hr ?_; (case hd => rfl); (case hg => rfl); (case hr => exact u33_); intro gb318 hg w5 hbox hb; have BK318 := am_ (hbox); have GW318 := am_ ((by rw [hg]; exact (below_size u2_) : w.heap.size ≤ gb318)); have GE318 := GW318; replace HB := am_ (below_step u2_ hb); clear hb hbox hg; have hcz6_0 : w5.cell? ⟨gb318, 0, none⟩ = some (.string (⟨#[]⟩ : ByteArray)) := (blk_cell BK318.out 0).trans rfl; have hcz6_1 : w5.cell? ⟨gb318, 1, none⟩ = some (.int .i64 0) := (blk_cell BK318.out 1).trans rfl; have hcz6_2 : w5.cell? ⟨gb318, 2, none⟩ = some (.int .i64 0) := (blk_cell BK318.out 2).trans rfl; have hfz6_0 := blk_frozen BK318.out 0; have hfz6_1 := blk_frozen BK318.out 1; have hfz6_2 := blk_frozen BK318.out 2))
     (try simp only [Act.put, List.setIfInBounds_toArray, List.set_cons_zero, List.set_cons_succ])
     go_cut [5] (fun v5 wc => ∃ (kq : Nat) (x5_3 : Bool), v5 = .bool x5_3 ∧ Aside0 (spec_FieldsOk.j1 kq l0 x3_1 x5_3 ((rd_T75 l0 x3_1).f0) ((rd_T75 l0 x3_1).f1) ((rd_T75 l0 x3_1).f2) = some r) ∧ Aside0 (kq ≤ k1) ∧ Aside0 (wc.heap[gb318]? = some (.cells #[.string ((rd_T75 l0 x3_1).f0), .int .i64 ((rd_T75 l0 x3_1).f1), .int .i64 ((rd_T75 l0 x3_1).f2)] 75 (0, 0))) ∧ Aside0 (Below w.heap.size w wc))
     case first =>
      have H := HC4.out; clear HC4; by_cases c7 : ((rd_T75 l0 x3_1).f1) = 1
      ·rw [if_pos c7] at H; have c7b0 : (((rd_T75 l0 x3_1).f1) == 1) = true := beq_iff_eq.mpr c7; have c7b1 : (((rd_T75 l0 x3_1).f1) != 1) = false := bne_eq_false_iff_eq.mpr c7; clear c7; (first | rw [c7b0] | (simp only [i64_w, i32_w]; rw [c7b0]) | skip)
       replace H := Option.bind_eq_some_iff.mp H; obtain ⟨t319, A80, H⟩ := H; replace H : (spec_FieldsOk.j1 k1 l0 x3_1 t319 ((rd_T75 l0 x3_1).f0) ((rd_T75 l0 x3_1).f1) ((rd_T75 l0 x3_1).f2)) = some r := H; have A8 := am_ A80; clear A80; have H' := am_ H; clear H; have hcz9_0 : w5.cell? ⟨gb318, 0, none⟩ = some (.string (⟨#[]⟩ : ByteArray)) := (blk_cell BK318.out 0).trans rfl; have hcz9_1 : w5.cell? ⟨gb318, 1, none⟩ = some (.int .i64 0) := (blk_cell BK318.out 1).trans rfl; have hcz9_2 : w5.cell? ⟨gb318, 2, none⟩ = some (.int .i64 0) := (blk_cell BK318.out 2).trans rfl; have hfz9_0 := blk_frozen BK318.out 0; have hfz9_1 := blk_frozen BK318.out 1; have hfz9_2 := blk_frozen BK318.out 2; go_wp2_with (first | (go_at_call 68; (with_reducible refine (spec_l1In.calls ((rd_T75 l0 x3_1).f2) 1 9 t319 _ A8.out).mono ?_); rintro e w' ⟨rfl, ⟨nd, rfl⟩⟩))
       go_meet
       case rel => exact ⟨_, (t319), u35_, H', ⟨u146_⟩, ⟨u109_⟩, ⟨u58_⟩⟩
      ·rw [if_neg c7] at H; have c7b0 : (((rd_T75 l0 x3_1).f1) == 1) = false := beq_eq_false_iff_ne.mpr c7; have c7b1 : (((rd_T75 l0 x3_1).f1) != 1) = true := bne_iff_ne.mpr c7; (first | rw [c7b0] | (simp only [i64_w, i32_w]; rw [c7b0]) | skip)
       have H' := am_ H; clear H; have hcz10_0 : w5.cell? ⟨gb318, 0, none⟩ = some (.string (⟨#[]⟩ : ByteArray)) := (blk_cell BK318.out 0).trans rfl; have hcz10_1 : w5.cell? ⟨gb318, 1, none⟩ = some (.int .i64 0) := (blk_cell BK318.out 1).trans rfl; have hcz10_2 : w5.cell? ⟨gb318, 2, none⟩ = some (.int .i64 0) := (blk_cell BK318.out 2).trans rfl; have hfz10_0 := blk_frozen BK318.out 0; have hfz10_1 := blk_frozen BK318.out 1; have hfz10_2 := blk_frozen BK318.out 2; go_wp2; go_meet
       case rel => exact ⟨_, (false), u35_, H', ⟨u146_⟩, ⟨u109_⟩, ⟨u58_⟩⟩
     case rest =>
      clear HC4; try clear c2
      try clear c2b0
      try clear p2
      try clear c3
      try clear c3b0
      try clear p3
      try clear q3
      try clear hx3
      try clear c7
      try clear c7b0
      try clear c7b1
      try clear hcz10_0
      try clear hcz10_1
      try clear hcz10_2
      try clear hcz6_0
      try clear hcz6_1
      try clear hcz6_2
      try clear hcz9_0
      try clear hcz9_1
      try clear hcz9_2
      try clear hfz10_0
      try clear hfz10_1
      try clear hfz10_2
      try clear hfz6_0
      try clear hfz6_1
      try clear hfz6_2
      try clear hfz9_0
      try clear hfz9_1
      try clear hfz9_2
      try clear hx317_0
      try clear hx317_1
      try clear hx317_2
      try clear p317
      try clear q317
      obtain ⟨kq, x5_3, rfl, HA, HJ3, BK318, HB⟩ := hcut; cases kq with
      | zero => exact absurd HA.out (by simp [spec_FieldsOk.j1])
      | succ kj3 =>
       have H := HA.out; clear HA; simp only [spec_FieldsOk.j1] at H; have HC11 := am_ H; clear H; go_upto_region 6 with (fail)
       go_cut [6] (fun v6 wc => ∃ (kq : Nat) (x6_10 : Bool), v6 = .bool x6_10 ∧ Aside0 (spec_FieldsOk.j2 kq l0 x3_1 x5_3 x6_10 ((rd_T75 l0 x3_1).f0) ((rd_T75 l0 x3_1).f1) ((rd_T75 l0 x3_1).f2) = some r) ∧ Aside0 (kq ≤ kj3) ∧ Aside0 (wc.heap[gb318]? = some (.cells #[.string ((rd_T75 l0 x3_1).f0), .int .i64 ((rd_T75 l0 x3_1).f1), .int .i64 ((rd_T75 l0 x3_1).f2)] 75 (0, 0))) ∧ Aside0 (Below w.heap.size w wc))
       case first =>
        have H := HC11.out; clear HC11; replace H := Option.bind_eq_some_iff.mp H; obtain ⟨t320, A120, H⟩ := H; replace H : (if t320 = true then (spec_FieldsOk.j2 kj3 l0 x3_1 x5_3 (((rd_T75 l0 x3_1).f2) == 0) ((rd_T75 l0 x3_1).f0) ((rd_T75 l0 x3_1).f1) ((rd_T75 l0 x3_1).f2)) else (spec_FieldsOk.j2 kj3 l0 x3_1 x5_3 false ((rd_T75 l0 x3_1).f0) ((rd_T75 l0 x3_1).f1) ((rd_T75 l0 x3_1).f2))) = some r := H; have A12 := am_ A120; clear A120; by_cases c13 : t320 = true
        ·subst c13; rw [if_pos rfl] at H; have H' := am_ H; clear H; have hcz14_0 : wc.cell? ⟨gb318, 0, none⟩ = some (.string ((rd_T75 l0 x3_1).f0)) := (blk_cell BK318.out 0).trans rfl; have hcz14_1 : wc.cell? ⟨gb318, 1, none⟩ = some (.int .i64 ((rd_T75 l0 x3_1).f1)) := (blk_cell BK318.out 1).trans rfl; have hcz14_2 : wc.cell? ⟨gb318, 2, none⟩ = some (.int .i64 ((rd_T75 l0 x3_1).f2)) := (blk_cell BK318.out 2).trans rfl; have hfz14_0 := blk_frozen BK318.out 0; have hfz14_1 := blk_frozen BK318.out 1; have hfz14_2 := blk_frozen BK318.out 2; go_wp2_with (first | ((with_reducible refine gate_callee (f := 68) rfl ?_); refine goesL_ (some 27) rfl rfl Tryd.func68 u23_ rfl #[.int .i64 ((rd_T75 l0 x3_1).f1), .int .i64 2, .int .i64 3] rfl u1_ ?_; (with_reducible refine (spec_l1In.calls ((rd_T75 l0 x3_1).f1) 2 3 true _ A12.out).mono ?_); rintro e w' ⟨rfl, ⟨nd, rfl⟩⟩; refine ⟨_, rfl, ?_⟩))
         go_meet
         case rel => exact ⟨_, ((((rd_T75 l0 x3_1).f2) == 0)), u35_, H', ⟨by have := HK1.out; have := HJ3.out; first | omega | exact Nat.le_refl _⟩, ⟨u199_⟩, ⟨u58_⟩⟩
        ·replace c13 := Bool.eq_false_iff.mpr c13; subst c13; rw [if_neg (show ¬ (false = true) by decide)] at H; have H' := am_ H; clear H; have hcz15_0 : wc.cell? ⟨gb318, 0, none⟩ = some (.string ((rd_T75 l0 x3_1).f0)) := (blk_cell BK318.out 0).trans rfl; have hcz15_1 : wc.cell? ⟨gb318, 1, none⟩ = some (.int .i64 ((rd_T75 l0 x3_1).f1)) := (blk_cell BK318.out 1).trans rfl; have hcz15_2 : wc.cell? ⟨gb318, 2, none⟩ = some (.int .i64 ((rd_T75 l0 x3_1).f2)) := (blk_cell BK318.out 2).trans rfl; have hfz15_0 := blk_frozen BK318.out 0; have hfz15_1 := blk_frozen BK318.out 1; have hfz15_2 := blk_frozen BK318.out 2; go_wp2_with (first | ((with_reducible refine gate_callee (f := 68) rfl ?_); refine goesL_ (some 27) rfl rfl Tryd.func68 u23_ rfl #[.int .i64 ((rd_T75 l0 x3_1).f1), .int .i64 2, .int .i64 3] rfl u1_ ?_; (with_reducible refine (spec_l1In.calls ((rd_T75 l0 x3_1).f1) 2 3 false _ A12.out).mono ?_); rintro e w' ⟨rfl, ⟨nd, rfl⟩⟩; refine ⟨_, rfl, ?_⟩))
         go_meet
         case rel => exact ⟨_, (false), u35_, H', ⟨by have := HK1.out; have := HJ3.out; first | omega | exact Nat.le_refl _⟩, ⟨u199_⟩, ⟨u58_⟩⟩
       case rest =>
        clear HC11; try clear c1
        try clear c2
        try clear c2b0
        try clear p2
        try clear c3
        try clear c3b0
        try clear p3
        try clear q3
        try clear hx3
        try clear c6
        try clear c7
        try clear c7b0
        try clear c7b1
        try clear c13
        try clear hcz10_0
        try clear hcz10_1
        try clear hcz10_2
        try clear hcz14_0
        try clear hcz14_1
        try clear hcz14_2
        try clear hcz15_0
        try clear hcz15_1
        try clear hcz15_2
        try clear hcz6_0
        try clear hcz6_1
        try clear hcz6_2
        try clear hcz9_0
        try clear hcz9_1
        try clear hcz9_2
        try clear hfz10_0
        try clear hfz10_1
        try clear hfz10_2
        try clear hfz14_0
        try clear hfz14_1
        try clear hfz14_2
        try clear hfz15_0
        try clear hfz15_1
        try clear hfz15_2
        try clear hfz6_0
        try clear hfz6_1
        try clear hfz6_2
        try clear hfz9_0
        try clear hfz9_1
        try clear hfz9_2
        try clear hx317_0
        try clear hx317_1
        try clear hx317_2
        try clear p2
        try clear p3
        try clear p317
        try clear q3
        try clear q317
        obtain ⟨kq, x6_10, rfl, HA, HJ10, BK318, HB⟩ := hcut; cases kq with
        | zero => exact absurd HA.out (by simp [spec_FieldsOk.j2])
        | succ kj10 =>
         have H := HA.out; clear HA; simp only [spec_FieldsOk.j2] at H; replace H := Option.bind_eq_some_iff.mp H; obtain ⟨t321, A160, H⟩ := H; replace H : (if t321 = true then ((spec_l2Field.f kj10 l0 ((rd_T75 l0 x3_1).f0)).bind fun t322 => (if t322 = x3_1 then (if x5_3 = true then (spec_FieldsOk.l0 kj10 l0 (wrap64 (x3_1 + 1))) else (if x6_10 = true then (spec_FieldsOk.l0 kj10 l0 (wrap64 (x3_1 + 1))) else (some false))) else (some false))) else (some false)) = some r := H; have A16 := am_ A160; clear A160; by_cases c17 : t321 = true
         ·subst c17; rw [if_pos rfl] at H; replace H := Option.bind_eq_some_iff.mp H; obtain ⟨t322, A180, H⟩ := H; replace H : (if t322 = x3_1 then (if x5_3 = true then (spec_FieldsOk.l0 kj10 l0 (wrap64 (x3_1 + 1))) else (if x6_10 = true then (spec_FieldsOk.l0 kj10 l0 (wrap64 (x3_1 + 1))) else (some false))) else (some false)) = some r := H; have A18 := am_ A180; clear A180; by_cases c19 : t322 = x3_1
          ·rw [if_pos c19] at H; have c19b0 : (t322 == x3_1) = true := beq_iff_eq.mpr c19; have c19b1 : (t322 != x3_1) = false := bne_eq_false_iff_eq.mpr c19; clear c19; by_cases c20 : x5_3 = true
           ·subst c20; rw [if_pos rfl] at H; have H' := am_ H; clear H; have hcz21_0 : wc.cell? ⟨gb318, 0, none⟩ = some (.string ((rd_T75 l0 x3_1).f0)) := (blk_cell BK318.out 0).trans rfl; have hcz21_1 : wc.cell? ⟨gb318, 1, none⟩ = some (.int .i64 ((rd_T75 l0 x3_1).f1)) := (blk_cell BK318.out 1).trans rfl; have hcz21_2 : wc.cell? ⟨gb318, 2, none⟩ = some (.int .i64 ((rd_T75 l0 x3_1).f2)) := (blk_cell BK318.out 2).trans rfl; have hfz21_0 := blk_frozen BK318.out 0; have hfz21_1 := blk_frozen BK318.out 1; have hfz21_2 := blk_frozen BK318.out 2; go_wp2_with (first | ((with_reducible refine gate_callee (f := 69) rfl ?_); refine goesL_ (some 35) rfl rfl Tryd.func69 u23_ rfl #[.string ((rd_T75 l0 x3_1).f0)] rfl u1_ ?_; (with_reducible refine (spec_NameOk.calls kj10 ((rd_T75 l0 x3_1).f0) true _ A16.out).mono ?_); rintro e w' ⟨rfl, ⟨nd, rfl⟩⟩; refine ⟨_, rfl, ?_⟩) | (go_at_call 63; (with_reducible refine (spec_l2Field.calls kj10 _ _ l0 ((rd_T75 l0 x3_1).f0) t322 _ ?side1 ?side2 A18.out).mono ?_); (case side1 => exact u230_); (case side2 => exact u191_); rintro e w' ⟨rfl, ⟨nd, rfl⟩⟩))
            go_roundg kj10
            case measure => have := HK1.out; have := HJ3.out; have := HJ10.out; omega
            case rel => exact ⟨(wrap64 (x3_1 + 1)), u35_, H', ⟨by have := HK1.out; have := HJ3.out; have := HJ10.out; omega⟩, ⟨u58_⟩⟩
           ·replace c20 := Bool.eq_false_iff.mpr c20; subst c20; rw [if_neg (show ¬ (false = true) by decide)] at H; by_cases c22 : x6_10 = true
            ·subst c22; rw [if_pos rfl] at H; have H' := am_ H; clear H; have hcz23_0 : wc.cell? ⟨gb318, 0, none⟩ = some (.string ((rd_T75 l0 x3_1).f0)) := (blk_cell BK318.out 0).trans rfl; have hcz23_1 : wc.cell? ⟨gb318, 1, none⟩ = some (.int .i64 ((rd_T75 l0 x3_1).f1)) := (blk_cell BK318.out 1).trans rfl; have hcz23_2 : wc.cell? ⟨gb318, 2, none⟩ = some (.int .i64 ((rd_T75 l0 x3_1).f2)) := (blk_cell BK318.out 2).trans rfl; have hfz23_0 := blk_frozen BK318.out 0; have hfz23_1 := blk_frozen BK318.out 1; have hfz23_2 := blk_frozen BK318.out 2; go_wp2_with (first | ((with_reducible refine gate_callee (f := 69) rfl ?_); refine goesL_ (some 35) rfl rfl Tryd.func69 u23_ rfl #[.string ((rd_T75 l0 x3_1).f0)] rfl u1_ ?_; (with_reducible refine (spec_NameOk.calls kj10 ((rd_T75 l0 x3_1).f0) true _ A16.out).mono ?_); rintro e w' ⟨rfl, ⟨nd, rfl⟩⟩; refine ⟨_, rfl, ?_⟩) | (go_at_call 63; (with_reducible refine (spec_l2Field.calls kj10 _ _ l0 ((rd_T75 l0 x3_1).f0) t322 _ ?side1 ?side2 A18.out).mono ?_); (case side1 => exact u230_); (case side2 => exact u191_); rintro e w' ⟨rfl, ⟨nd, rfl⟩⟩))
             go_roundg kj10
             case measure => have := HK1.out; have := HJ3.out; have := HJ10.out; omega
             case rel => exact ⟨(wrap64 (x3_1 + 1)), u35_, H', ⟨by have := HK1.out; have := HJ3.out; have := HJ10.out; omega⟩, ⟨u58_⟩⟩
            ·replace c22 := Bool.eq_false_iff.mpr c22; subst c22; rw [if_neg (show ¬ (false = true) by decide)] at H; obtain rfl := Option.some.inj H; have hcz24_0 : wc.cell? ⟨gb318, 0, none⟩ = some (.string ((rd_T75 l0 x3_1).f0)) := (blk_cell BK318.out 0).trans rfl; have hcz24_1 : wc.cell? ⟨gb318, 1, none⟩ = some (.int .i64 ((rd_T75 l0 x3_1).f1)) := (blk_cell BK318.out 1).trans rfl; have hcz24_2 : wc.cell? ⟨gb318, 2, none⟩ = some (.int .i64 ((rd_T75 l0 x3_1).f2)) := (blk_cell BK318.out 2).trans rfl; have hfz24_0 := blk_frozen BK318.out 0; have hfz24_1 := blk_frozen BK318.out 1; have hfz24_2 := blk_frozen BK318.out 2; go_wp2_with (first | ((with_reducible refine gate_callee (f := 69) rfl ?_); refine goesL_ (some 35) rfl rfl Tryd.func69 u23_ rfl #[.string ((rd_T75 l0 x3_1).f0)] rfl u1_ ?_; (with_reducible refine (spec_NameOk.calls kj10 ((rd_T75 l0 x3_1).f0) true _ A16.out).mono ?_); rintro e w' ⟨rfl, ⟨nd, rfl⟩⟩; refine ⟨_, rfl, ?_⟩) | (go_at_call 63; (with_reducible refine (spec_l2Field.calls kj10 _ _ l0 ((rd_T75 l0 x3_1).f0) t322 _ ?side1 ?side2 A18.out).mono ?_); (case side1 => exact u230_); (case side2 => exact u191_); rintro e w' ⟨rfl, ⟨nd, rfl⟩⟩))
             go_ret
             exact ⟨u6_, u58_⟩
          ·rw [if_neg c19] at H; have c19b0 : (t322 == x3_1) = false := beq_eq_false_iff_ne.mpr c19; have c19b1 : (t322 != x3_1) = true := bne_iff_ne.mpr c19; obtain rfl := Option.some.inj H; have hcz25_0 : wc.cell? ⟨gb318, 0, none⟩ = some (.string ((rd_T75 l0 x3_1).f0)) := (blk_cell BK318.out 0).trans rfl; have hcz25_1 : wc.cell? ⟨gb318, 1, none⟩ = some (.int .i64 ((rd_T75 l0 x3_1).f1)) := (blk_cell BK318.out 1).trans rfl; have hcz25_2 : wc.cell? ⟨gb318, 2, none⟩ = some (.int .i64 ((rd_T75 l0 x3_1).f2)) := (blk_cell BK318.out 2).trans rfl; have hfz25_0 := blk_frozen BK318.out 0; have hfz25_1 := blk_frozen BK318.out 1; have hfz25_2 := blk_frozen BK318.out 2; go_wp2_with (first | ((with_reducible refine gate_callee (f := 69) rfl ?_); refine goesL_ (some 35) rfl rfl Tryd.func69 u23_ rfl #[.string ((rd_T75 l0 x3_1).f0)] rfl u1_ ?_; (with_reducible refine (spec_NameOk.calls kj10 ((rd_T75 l0 x3_1).f0) true _ A16.out).mono ?_); rintro e w' ⟨rfl, ⟨nd, rfl⟩⟩; refine ⟨_, rfl, ?_⟩) | (go_at_call 63; (with_reducible refine (spec_l2Field.calls kj10 _ _ l0 ((rd_T75 l0 x3_1).f0) t322 _ ?side1 ?side2 A18.out).mono ?_); (case side1 => exact u230_); (case side2 => exact u191_); rintro e w' ⟨rfl, ⟨nd, rfl⟩⟩))
           go_ret
           exact ⟨u6_, u58_⟩
         ·replace c17 := Bool.eq_false_iff.mpr c17; subst c17; rw [if_neg (show ¬ (false = true) by decide)] at H; obtain rfl := Option.some.inj H; have hcz26_0 : wc.cell? ⟨gb318, 0, none⟩ = some (.string ((rd_T75 l0 x3_1).f0)) := (blk_cell BK318.out 0).trans rfl; have hcz26_1 : wc.cell? ⟨gb318, 1, none⟩ = some (.int .i64 ((rd_T75 l0 x3_1).f1)) := (blk_cell BK318.out 1).trans rfl; have hcz26_2 : wc.cell? ⟨gb318, 2, none⟩ = some (.int .i64 ((rd_T75 l0 x3_1).f2)) := (blk_cell BK318.out 2).trans rfl; have hfz26_0 := blk_frozen BK318.out 0; have hfz26_1 := blk_frozen BK318.out 1; have hfz26_2 := blk_frozen BK318.out 2; go_wp2_with (first | ((with_reducible refine gate_callee (f := 69) rfl ?_); refine goesL_ (some 35) rfl rfl Tryd.func69 u23_ rfl #[.string ((rd_T75 l0 x3_1).f0)] rfl u1_ ?_; (with_reducible refine (spec_NameOk.calls kj10 ((rd_T75 l0 x3_1).f0) false _ A16.out).mono ?_); rintro e w' ⟨rfl, ⟨nd, rfl⟩⟩; refine ⟨_, rfl, ?_⟩))
          go_ret
          exact ⟨u6_, u58_⟩
    ·exact u239_
   ·rw [if_neg c2] at H; have c2b0 : decide (x3_1 < (l0.length : Int)) = false := decide_eq_false c2; clear c2; replace H := Option.bind_eq_some_iff.mp H; obtain ⟨t316, A270, H⟩ := H; replace H : (some t316) = some r := H; have A27 := am_ A270; clear A270; obtain rfl := Option.some.inj H; go_wp2_with (first | ((with_reducible refine gate_callee (f := 68) rfl ?_); refine goesL_ (some 55) rfl rfl Tryd.func68 u23_ rfl #[.int .i64 (l0.length : Int), .int .i64 1, .int .i64 4] rfl u1_ ?_; (with_reducible refine (spec_l1In.calls (l0.length : Int) 1 4 t316 _ A27.out).mono ?_); rintro e w' ⟨rfl, ⟨nd, rfl⟩⟩; refine ⟨_, rfl, ?_⟩))
    go_ret
    exact ⟨u6_, u2_⟩

/-! ### spec_l1Figures: function 41 -/
def spec_l1Figures.l0 : Nat → ByteArray → Int → Int → Option (Int)
 | 0, _, _, _ => none
 | k + 1, x0, x3, x4 => if x4 < (x0.size : Int) then (if 0 ≤ x4 then (if (bt x0 x4) < 48 then (some (-1)) else (if (bt x0 x4) > 57 then (some (-1)) else (if x4 ≥ 9 then (some (-1)) else (spec_l1Figures.l0 k x0 (wrap64 ((wrap64 (x3 * 10)) + (((bt x0 x4) - 48) % 256))) (wrap64 (x4 + 1)))))) else (none)) else (if (x0.size : Int) = 0 then (some (-1)) else (if (x0.size : Int) > 1 then (if 0 < (x0.size : Int) then (if (bt x0 0) = 48 then (some (-1)) else (some x3)) else (none)) else (some x3)))
def spec_l1Figures.f (k : Nat) (a0 : ByteArray) : Option (Int) := spec_l1Figures.l0 k a0 0 0
theorem spec_l1Figures.mono_l : ∀ k, (∀ y0 y1 y2, LeO (spec_l1Figures.l0 k y0 y1 y2) (spec_l1Figures.l0 (k + 1) y0 y1 y2))
 | 0 => fun _ _ _ r h => by simp [spec_l1Figures.l0] at h
 | k + 1 => by
  have ih0 := spec_l1Figures.mono_l k
  ·intro y0 y1 y2; unfold spec_l1Figures.l0
   repeat' first
   | (with_reducible exact ih0 _ _ _)
   | (with_reducible exact LeO.refl _)
   | (with_reducible exact LeO.none _)
   | (with_reducible refine LeO.ite ?_ ?_)
   | (with_reducible refine LeO.bind ?_ (fun _ => ?_))
   | exact ih0 _ _ _
   | exact LeO.none _
   | refine LeO.ite ?_ ?_
   | refine LeO.bind ?_ (fun _ => ?_)
theorem spec_l1Figures.mono : ∀ a0 k, LeO (spec_l1Figures.f k a0) (spec_l1Figures.f (k + 1) a0) := by
 intro a0 k; have ih0 := spec_l1Figures.mono_l k; unfold spec_l1Figures.f
 repeat' first
   | (with_reducible exact ih0 _ _ _)
   | (with_reducible exact LeO.refl _)
   | (with_reducible exact LeO.none _)
   | (with_reducible refine LeO.ite ?_ ?_)
   | (with_reducible refine LeO.bind ?_ (fun _ => ?_))
   | exact ih0 _ _ _
   | exact LeO.none _
   | refine LeO.ite ?_ ?_
   | refine LeO.bind ?_ (fun _ => ?_)
set_option maxHeartbeats 8000000 in
set_option maxRecDepth 100000 in
theorem spec_l1Figures.calls (k : Nat) (a0 : ByteArray) (r : Int) (w : World) (h : spec_l1Figures.f k a0 = some r) :
  Calls Tryd.prog 41 #[.string a0] w fun e w' => e = .returned (.int .i64 r) ∧ Drawn0 w w' := by
 have H : (spec_l1Figures.l0 k a0 0 0) = some r := h; clear h; have H' := am_ H; clear H; go_enter Tryd.func41, Tryd.ntmps41
 go_wp2; go_loopg [3, 4] k (fun kq v3 v4 w' => ∃ (x3_1 : Int) (x4_1 : Int), v3 = .int .i64 x3_1 ∧ v4 = .int .i64 x4_1 ∧ Aside0 (spec_l1Figures.l0 kq a0 x3_1 x4_1 = some r) ∧ Aside0 (kq ≤ k) ∧ Drawn0 w w')
 case atStart => exact ⟨(0), (0), u35_, u35_, H', ⟨Nat.le_refl _⟩, u41_⟩
 case round =>
  clear H'; obtain ⟨x3_1, x4_1, rfl, rfl, HA, HK1, ⟨m1, rfl⟩⟩ := hrel; cases gk with
  | zero => exact absurd HA.out (by simp [spec_l1Figures.l0])
  | succ k1 =>
   have H := HA.out; clear HA; simp only [spec_l1Figures.l0] at H; by_cases c2 : x4_1 < (a0.size : Int)
   ·rw [if_pos c2] at H; have c2b0 : decide (x4_1 < (a0.size : Int)) = true := decide_eq_true c2; clear c2; by_cases c3 : 0 ≤ x4_1
    ·rw [if_pos c3] at H; have c3b0 : decide (0 ≤ x4_1) = true := decide_eq_true c3; clear c3; by_cases c5 : (bt a0 x4_1) < 48
     ·rw [if_pos c5] at H; have c5b0 : decide ((bt a0 x4_1) < 48) = true := decide_eq_true c5; clear c5; obtain rfl := Option.some.inj H; have p4 : 0 ≤ (x4_1 : Int) := of_decide_eq_true u5_; have q4 : x4_1 < (a0.size : Int) := of_decide_eq_true u5_; have hx4 := bt_at a0 x4_1; replace p4 := eq_true p4; replace q4 := eq_true q4; go_wp2; go_ret
      exact ⟨u45_, u41_⟩
     ·rw [if_neg c5] at H; have c5b0 : decide ((bt a0 x4_1) < 48) = false := decide_eq_false c5; clear c5; by_cases c7 : (bt a0 x4_1) > 57
      ·rw [if_pos c7] at H; have c7b0 : decide (57 < (bt a0 x4_1)) = true := decide_eq_true c7; clear c7; obtain rfl := Option.some.inj H; have p4 : 0 ≤ (x4_1 : Int) := of_decide_eq_true u5_; have q4 : x4_1 < (a0.size : Int) := of_decide_eq_true u5_; have hx4 := bt_at a0 x4_1; replace p4 := eq_true p4; replace q4 := eq_true q4; have p6 : 0 ≤ (x4_1 : Int) := of_decide_eq_true u5_; have q6 : x4_1 < (a0.size : Int) := of_decide_eq_true u5_; have hx6 := bt_at a0 x4_1; replace p6 := eq_true p6; replace q6 := eq_true q6; go_wp2; go_ret
       exact ⟨u45_, u41_⟩
      ·rw [if_neg c7] at H; have c7b0 : decide (57 < (bt a0 x4_1)) = false := decide_eq_false c7; clear c7; by_cases c8 : x4_1 ≥ 9
       ·rw [if_pos c8] at H; have c8b0 : decide (9 ≤ x4_1) = true := decide_eq_true c8; clear c8; obtain rfl := Option.some.inj H; have p4 : 0 ≤ (x4_1 : Int) := of_decide_eq_true u5_; have q4 : x4_1 < (a0.size : Int) := of_decide_eq_true u5_; have hx4 := bt_at a0 x4_1; replace p4 := eq_true p4; replace q4 := eq_true q4; have p6 : 0 ≤ (x4_1 : Int) := of_decide_eq_true u5_; have q6 : x4_1 < (a0.size : Int) := of_decide_eq_true u5_; have hx6 := bt_at a0 x4_1; replace p6 := eq_true p6; replace q6 := eq_true q6; go_wp2; go_ret
        exact ⟨u45_, u41_⟩
       ·rw [if_neg c8] at H; have c8b0 : decide (9 ≤ x4_1) = false := decide_eq_false c8; clear c8; have H' := am_ H; clear H; have p4 : 0 ≤ (x4_1 : Int) := of_decide_eq_true u5_; have q4 : x4_1 < (a0.size : Int) := of_decide_eq_true u5_; have hx4 := bt_at a0 x4_1; replace p4 := eq_true p4; replace q4 := eq_true q4; have p6 : 0 ≤ (x4_1 : Int) := of_decide_eq_true u5_; have q6 : x4_1 < (a0.size : Int) := of_decide_eq_true u5_; have hx6 := bt_at a0 x4_1; replace p6 := eq_true p6; replace q6 := eq_true q6; have p9 : 0 ≤ (x4_1 : Int) := of_decide_eq_true u5_; have q9 : x4_1 < (a0.size : Int) := of_decide_eq_true u5_; have hx9 := bt_at a0 x4_1; replace p9 := eq_true p9; replace q9 := eq_true q9; go_wp2; go_roundg k1
        case measure => have := HK1.out; omega
        case rel => exact ⟨(wrap64 ((wrap64 (x3_1 * 10)) + (((bt a0 x4_1) - 48) % 256))), (wrap64 (x4_1 + 1)), u35_, u35_, H', ⟨u131_⟩, u41_⟩
    ·exact u239_
   ·rw [if_neg c2] at H; have c2b0 : decide (x4_1 < (a0.size : Int)) = false := decide_eq_false c2; clear c2; by_cases c10 : (a0.size : Int) = 0
    ·rw [if_pos c10] at H; have c10b0 : ((a0.size : Int) == 0) = true := beq_iff_eq.mpr c10; have c10b1 : ((a0.size : Int) != 0) = false := bne_eq_false_iff_eq.mpr c10; clear c10; obtain rfl := Option.some.inj H; go_wp2; go_ret
     exact ⟨u45_, u41_⟩
    ·rw [if_neg c10] at H; have c10b0 : ((a0.size : Int) == 0) = false := beq_eq_false_iff_ne.mpr c10; have c10b1 : ((a0.size : Int) != 0) = true := bne_iff_ne.mpr c10; by_cases c11 : (a0.size : Int) > 1
     ·rw [if_pos c11] at H; have c11b0 : decide (1 < (a0.size : Int)) = true := decide_eq_true c11; have c11b1 : decide (1 < a0.size) = true := decide_eq_true u145_; clear c11; by_cases c12 : 0 < (a0.size : Int)
      ·rw [if_pos c12] at H; have c12b0 : decide (0 < (a0.size : Int)) = true := decide_eq_true c12; have c12b1 : decide (0 < a0.size) = true := decide_eq_true u145_; clear c12; by_cases c14 : (bt a0 0) = 48
       ·rw [if_pos c14] at H; have c14b0 : ((bt a0 0) == 48) = true := beq_iff_eq.mpr c14; have c14b1 : ((bt a0 0) != 48) = false := bne_eq_false_iff_eq.mpr c14; clear c14; obtain rfl := Option.some.inj H; have p13 : 0 ≤ (0 : Int) := u145_; have q13 : 0 < a0.size := (by have : (0 : Int) < (a0.size : Int) := of_decide_eq_true u5_; omega); have hx13 : ∀ h : 0 < a0.size, ((a0[0]'h).toNat : Int) = bt a0 0 := bt_at a0 0; clear p13; have qi13 : (0 < (a0.size : Int)) = True := eq_true (of_decide_eq_true u5_); replace q13 := eq_true q13; go_wp2; go_ret
        exact ⟨u45_, u41_⟩
       ·rw [if_neg c14] at H; have c14b0 : ((bt a0 0) == 48) = false := beq_eq_false_iff_ne.mpr c14; have c14b1 : ((bt a0 0) != 48) = true := bne_iff_ne.mpr c14; obtain rfl := Option.some.inj H; have p13 : 0 ≤ (0 : Int) := u145_; have q13 : 0 < a0.size := (by have : (0 : Int) < (a0.size : Int) := of_decide_eq_true u5_; omega); have hx13 : ∀ h : 0 < a0.size, ((a0[0]'h).toNat : Int) = bt a0 0 := bt_at a0 0; clear p13; have qi13 : (0 < (a0.size : Int)) = True := eq_true (of_decide_eq_true u5_); replace q13 := eq_true q13; go_wp2; go_ret
        exact ⟨u45_, u41_⟩
      ·rw [if_neg c12] at H; exact absurd H u99_
     ·rw [if_neg c11] at H; have c11b0 : decide (1 < (a0.size : Int)) = false := decide_eq_false c11; have c11b1 : decide (1 < a0.size) = false := decide_eq_false u145_; clear c11; obtain rfl := Option.some.inj H; go_wp2; go_ret
      exact ⟨u45_, u41_⟩

/-! ### spec_l1Number: function 90 -/
def spec_l1Number.j0 : Nat → ByteArray → Bool → Option (Int × Bool)
 | 0, _, _ => none
 | k + 1, x0, x13 => if x13 = true then (if 1 ≤ (x0.size : Int) then ((spec_l1Figures.f k (x0.extract 1 x0.size)).bind fun t323 => (some (wrap64 (-t323), decide (t323 > 0)))) else (none)) else ((spec_l1Figures.f k x0).bind fun t324 => (some (t324, decide (t324 ≥ 0))))
def spec_l1Number.f (k : Nat) (a0 : ByteArray) : Option (Int × Bool) := if (a0.size : Int) > 1 then (if 0 < (a0.size : Int) then (spec_l1Number.j0 k a0 ((bt a0 0) == 45)) else (none)) else (spec_l1Number.j0 k a0 false)
theorem spec_l1Number.mono_l : ∀ k, (∀ y0 y1, LeO (spec_l1Number.j0 k y0 y1) (spec_l1Number.j0 (k + 1) y0 y1))
 | 0 => fun _ _ r h => by simp [spec_l1Number.j0] at h
 | k + 1 => by
  have ih0 := spec_l1Number.mono_l k
  ·intro y0 y1; unfold spec_l1Number.j0
   repeat' first
   | (with_reducible exact ih0 _ _)
   | (with_reducible exact spec_l1Figures.mono _ _)
   | (with_reducible exact LeO.refl _)
   | (with_reducible exact LeO.none _)
   | (with_reducible refine LeO.ite ?_ ?_)
   | (with_reducible refine LeO.bind ?_ (fun _ => ?_))
   | exact ih0 _ _
   | exact spec_l1Figures.mono _ _
   | exact LeO.none _
   | refine LeO.ite ?_ ?_
   | refine LeO.bind ?_ (fun _ => ?_)
theorem spec_l1Number.mono : ∀ a0 k, LeO (spec_l1Number.f k a0) (spec_l1Number.f (k + 1) a0) := by
 intro a0 k; have ih0 := spec_l1Number.mono_l k; unfold spec_l1Number.f
 repeat' first
   | (with_reducible exact ih0 _ _)
   | (with_reducible exact spec_l1Figures.mono _ _)
   | (with_reducible exact LeO.refl _)
   | (with_reducible exact LeO.none _)
   | (with_reducible refine LeO.ite ?_ ?_)
   | (with_reducible refine LeO.bind ?_ (fun _ => ?_))
   | exact ih0 _ _
   | exact spec_l1Figures.mono _ _
   | exact LeO.none _
   | refine LeO.ite ?_ ?_
   | refine LeO.bind ?_ (fun _ => ?_)
set_option maxHeartbeats 8000000 in
set_option maxRecDepth 100000 in
theorem spec_l1Number.calls (k : Nat) (a0 : ByteArray) (r1 : Int) (r2 : Bool) (w : World) (h : spec_l1Number.f k a0 = some (r1, r2)) :
  Calls Tryd.prog 90 #[.string a0] w fun e w' => e = .returned (.tuple #[.int .i64 r1, .bool r2]) ∧ Drawn0 w w' := by
 have H : (if (a0.size : Int) > 1 then (if 0 < (a0.size : Int) then (spec_l1Number.j0 k a0 ((bt a0 0) == 45)) else (none)) else (spec_l1Number.j0 k a0 false)) = some (r1, r2) := h; clear h; have HC2 := am_ H; clear H; go_enter Tryd.func90, Tryd.ntmps90
 go_upto_region 1 with (fail)
 go_cut [13] (fun v13 wc => ∃ (kq : Nat) (x13_1 : Bool), v13 = .bool x13_1 ∧ Aside0 (spec_l1Number.j0 kq a0 x13_1 = some (r1, r2)) ∧ Aside0 (kq ≤ k) ∧ Drawn0 w wc)
 case first =>
  have H := HC2.out; clear HC2; by_cases c3 : (a0.size : Int) > 1
  ·rw [if_pos c3] at H; have c3b0 : decide (1 < (a0.size : Int)) = true := decide_eq_true c3; have c3b1 : decide (1 < a0.size) = true := decide_eq_true u145_; clear c3; (first | rw [c3b0] | (simp only [i64_w, i32_w]; rw [c3b0]) | skip)
   by_cases c4 : 0 < (a0.size : Int)
   ·rw [if_pos c4] at H; have c4b0 : decide (0 < (a0.size : Int)) = true := decide_eq_true c4; have c4b1 : decide (0 < a0.size) = true := decide_eq_true u145_; clear c4; have H' := am_ H; clear H; have p5 : 0 ≤ (0 : Int) := u145_; have q5 : 0 < a0.size := (by have : (0 : Int) < (a0.size : Int) := of_decide_eq_true u5_; omega); have hx5 : ∀ h : 0 < a0.size, ((a0[0]'h).toNat : Int) = bt a0 0 := bt_at a0 0; clear p5; have qi5 : (0 < (a0.size : Int)) = True := eq_true (of_decide_eq_true u5_); replace q5 := eq_true q5; go_wp2; go_meet
    case rel => exact ⟨_, (((bt a0 0) == 45)), u35_, H', ⟨u161_⟩, u41_⟩
   ·exact u236_
  ·rw [if_neg c3] at H; have c3b0 : decide (1 < (a0.size : Int)) = false := decide_eq_false c3; have c3b1 : decide (1 < a0.size) = false := decide_eq_false u145_; clear c3; (first | rw [c3b0] | (simp only [i64_w, i32_w]; rw [c3b0]) | skip)
   have H' := am_ H; clear H; go_wp2; go_meet
   case rel => exact ⟨_, (false), u35_, H', ⟨u161_⟩, u41_⟩
 case rest =>
  clear HC2; try clear p2
  try clear c3
  try clear c3b0
  try clear c3b1
  try clear c4
  try clear c4b0
  try clear c4b1
  try clear p5
  try clear q5
  try clear hx5
  try clear qi5
  try clear p5
  try clear q5
  obtain ⟨kq, x13_1, rfl, HA, HJ1, ⟨mc1, rfl⟩⟩ := hcut; cases kq with
  | zero => exact absurd HA.out (by simp [spec_l1Number.j0])
  | succ kj1 =>
   have H := HA.out; clear HA; simp only [spec_l1Number.j0] at H; by_cases c6 : x13_1 = true
   ·subst c6; rw [if_pos rfl] at H; by_cases c7 : 1 ≤ (a0.size : Int)
    ·rw [if_pos c7] at H; have c7b0 := eq_true c7; have c7b1 : decide (1 ≤ (a0.size : Int)) = true := decide_eq_true c7; clear c7; replace H := Option.bind_eq_some_iff.mp H; obtain ⟨t323, A80, H⟩ := H; replace H : (some (wrap64 (-t323), decide (t323 > 0))) = some (r1, r2) := H; have A8 := am_ A80; clear A80; simp only [Option.some.injEq, Prod.mk.injEq] at H; obtain ⟨rfl, rfl⟩ := H; go_wp2_with (first | ((with_reducible refine gate_callee (f := 41) rfl ?_); refine goesL_ (some 16) rfl rfl Tryd.func41 u23_ rfl #[.string (a0.extract 1 a0.size)] rfl u1_ ?_; (with_reducible refine (spec_l1Figures.calls kj1 (a0.extract 1 a0.size) t323 _ A8.out).mono ?_); rintro e w' ⟨rfl, ⟨nd, rfl⟩⟩; refine ⟨_, rfl, ?_⟩))
     go_ret2
     exact ⟨u45_, u41_⟩
    ·exact u250_
   ·replace c6 := Bool.eq_false_iff.mpr c6; subst c6; rw [if_neg (show ¬ (false = true) by decide)] at H; replace H := Option.bind_eq_some_iff.mp H; obtain ⟨t324, A90, H⟩ := H; replace H : (some (t324, decide (t324 ≥ 0))) = some (r1, r2) := H; have A9 := am_ A90; clear A90; simp only [Option.some.injEq, Prod.mk.injEq] at H; obtain ⟨rfl, rfl⟩ := H; go_wp2_with (first | ((with_reducible refine gate_callee (f := 41) rfl ?_); refine goesL_ (some 22) rfl rfl Tryd.func41 u23_ rfl #[.string a0] rfl u1_ ?_; (with_reducible refine (spec_l1Figures.calls kj1 a0 t324 _ A9.out).mono ?_); rintro e w' ⟨rfl, ⟨nd, rfl⟩⟩; refine ⟨_, rfl, ?_⟩))
    go_ret2
    exact ⟨u45_, u41_⟩

end Go.Proofs.YtelcdhjdlgedeaaDoor.PFnDocOk
