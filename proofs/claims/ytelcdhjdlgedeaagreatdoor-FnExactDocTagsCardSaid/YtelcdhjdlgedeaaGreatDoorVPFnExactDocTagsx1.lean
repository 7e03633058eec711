/- Contracts of Go functions that the law FnExactDocTags reaches: each is told as a plain Lean function, with the walk that shows it; no condition beyond what each states. Written by a program of this session round the kit's printer. -/
import Derived.Test.YtelcdhjdlgedeaaGreatDoorVPFnExactDocTagsx0
namespace Go.Proofs.YtelcdhjdlgedeaaGreatDoor.PFnExactDocTags
open Go.RowKit Go.Proofs.YtelcdhjdlgedeaaGreatDoorW.PrintWords Go.Proofs.YtelcdhjdlgedeaaGreatDoorW.PrintLast Go.Proofs.YtelcdhjdlgedeaaGreatDoorW.PrintMore
attribute [local go_sem] run_str_geq run_str_leq max2_int min2_int max_two min_two max_three min_three max_four min_four   -- for this text's walks alone
set_option linter.unusedVariables false
set_option linter.unusedSimpArgs false

/-! ### laws_szField: function 36 -/
def laws_szField.f (a0_0 : ByteArray) (a0_1 : Int) (a0_2 : Int) (a1 : Int) : Option (Int) := if (wrap64 (a1 - (a0_0.size : Int))) < 0 then (some (-1)) else (some (wrap64 (a1 - (a0_0.size : Int))))
set_option maxHeartbeats 8000000 in
set_option maxRecDepth 100000 in
theorem laws_szField.calls (a0_0 : ByteArray) (a0_1 : Int) (a0_2 : Int) (a1 : Int) (r : Int) (w : World) (h : laws_szField.f a0_0 a0_1 a0_2 a1 = some r) :
  Calls Tryz.prog 36 #[.agg #[.string a0_0, .int .i64 a0_1, .int .i64 a0_2], .int .i64 a1] w fun e w' => e = .returned (.int .i64 r) ∧ Below w.heap.size w w' := by
 have hu72 := Tryz.underlying72; have HB := am_ (Below.refl w.heap.size w); have H : (if (wrap64 (a1 - (a0_0.size : Int))) < 0 then (some (-1)) else (some (wrap64 (a1 - (a0_0.size : Int))))) = some r := h; clear h; by_cases c3 : (wrap64 (a1 - (a0_0.size : Int))) < 0
 ·rw [if_pos c3] at H; have c3b0 : decide ((wrap64 (a1 - (a0_0.size : Int))) < 0) = true := decide_eq_true c3; clear c3; obtain rfl := Option.some.inj H; go_enter Tryz.func36, Tryz.ntmps36
  go_wp2_with (first | ((with_reducible refine gate_dst (N := 2) rfl ?_); refine box_event ?hg (N := 2) ?hd (cs := #[.string a0_0, .int .i64 a0_1, .int .i64 a0_2]) (t := 72) ?hr ?_; (case hd => rfl); (case hg => rfl); (case hr => first | (go_simp; done) | (go_simp; rfl)); intro gb101 hg w4 hbox hb; have BK101 := am_ (hbox); have GW101 := am_ ((by rw [hg]; exact (below_size u0_) : w.heap.size ≤ gb101)); have GE101 := GW101; replace HB := am_ (below_step u0_ hb); clear hb hbox hg; have hcz5_0 : w4.cell? ⟨gb101, 0, none⟩ = some (.string a0_0) := (blk_cell BK101.out 0).trans rfl; have hcz5_1 : w4.cell? ⟨gb101, 1, none⟩ = some (.int .i64 a0_1) := (blk_cell BK101.out 1).trans rfl; have hcz5_2 : w4.cell? ⟨gb101, 2, none⟩ = some (.int .i64 a0_2) := (blk_cell BK101.out 2).trans rfl; have hfz5_0 := blk_frozen BK101.out 0; have hfz5_1 := blk_frozen BK101.out 1; have hfz5_2 := blk_frozen BK101.out 2))
  go_ret
  exact ⟨u5_, u119_⟩
 ·rw [if_neg c3] at H; have c3b0 : decide ((wrap64 (a1 - (a0_0.size : Int))) < 0) = false := decide_eq_false c3; clear c3; obtain rfl := Option.some.inj H; go_enter Tryz.func36, Tryz.ntmps36
  go_wp2_with (first | ((with_reducible refine gate_dst (N := 2) rfl ?_); refine box_event ?hg (N := 2) ?hd (cs := #[.string a0_0, .int .i64 a0_1, .int .i64 a0_2]) (t := 72) ?hr ?_; (case hd => rfl); (case hg => rfl); (case hr => first | (go_simp; done) | (go_simp; rfl)); intro gb101 hg w6 hbox hb; have BK101 := am_ (hbox); have GW101 := am_ ((by rw [hg]; exact (below_size u0_) : w.heap.size ≤ gb101)); have GE101 := GW101; replace HB := am_ (below_step u0_ hb); clear hb hbox hg; have hcz7_0 : w6.cell? ⟨gb101, 0, none⟩ = some (.string a0_0) := (blk_cell BK101.out 0).trans rfl; have hcz7_1 : w6.cell? ⟨gb101, 1, none⟩ = some (.int .i64 a0_1) := (blk_cell BK101.out 1).trans rfl; have hcz7_2 : w6.cell? ⟨gb101, 2, none⟩ = some (.int .i64 a0_2) := (blk_cell BK101.out 2).trans rfl; have hfz7_0 := blk_frozen BK101.out 0; have hfz7_1 := blk_frozen BK101.out 1; have hfz7_2 := blk_frozen BK101.out 2))
  go_ret
  exact ⟨u5_, u119_⟩

/-! ### laws_szFieldS: function 10 -/
def laws_szFieldS.l0 : Nat → List (S72) → Int → Int → Option (Int)
 | 0, _, _, _ => none
 | k + 1, x0, x1, x5 => if x5 < (x0.length : Int) then (if 0 ≤ x5 then ((laws_szField.f ((rd_T72 x0 x5).f0) ((rd_T72 x0 x5).f1) ((rd_T72 x0 x5).f2) x1).bind fun t103 => (if t103 < 0 then (some (-1)) else (laws_szFieldS.l0 k x0 t103 (wrap64 (x5 + 1))))) else (none)) else (some x1)
def laws_szFieldS.f (k : Nat) (l0 : List (S72)) (a1 : Int) : Option (Int) := if (wrap64 (a1 - (l0.length : Int))) < 0 then (some (-1)) else (laws_szFieldS.l0 k l0 (wrap64 (a1 - (l0.length : Int))) 0)
theorem laws_szFieldS.mono_l : ∀ k, (∀ y0 y1 y2, LeO (laws_szFieldS.l0 k y0 y1 y2) (laws_szFieldS.l0 (k + 1) y0 y1 y2))
 | 0 => fun _ _ _ r h => by simp [laws_szFieldS.l0] at h
 | k + 1 => by
  have ih0 := laws_szFieldS.mono_l k
  ·intro y0 y1 y2; unfold laws_szFieldS.l0
   repeat' first
   | (with_reducible exact ih0 _ _ _)
   | (with_reducible exact LeO.refl _)
   | (with_reducible exact LeO.none _)
   | (with_reducible refine LeO.ite ?_ ?_)
   | (with_reducible refine LeO.bind ?_ (fun _ => ?_))
   | exact ih0 _ _ _
   | exact LeO.none _
   | refine LeO.ite ?_ ?_
   | refine LeO.bind ?_ (fun _ => ?_)
theorem laws_szFieldS.mono : ∀ a0 a1 k, LeO (laws_szFieldS.f k a0 a1) (laws_szFieldS.f (k + 1) a0 a1) := by
 intro a0 a1 k; have ih0 := laws_szFieldS.mono_l k; unfold laws_szFieldS.f
 repeat' first
   | (with_reducible exact ih0 _ _ _)
   | (with_reducible exact LeO.refl _)
   | (with_reducible exact LeO.none _)
   | (with_reducible refine LeO.ite ?_ ?_)
   | (with_reducible refine LeO.bind ?_ (fun _ => ?_))
   | exact ih0 _ _ _
   | exact LeO.none _
   | refine LeO.ite ?_ ?_
   | refine LeO.bind ?_ (fun _ => ?_)
set_option maxHeartbeats 8000000 in
set_option maxRecDepth 100000 in
theorem laws_szFieldS.calls (k : Nat) (A0 : Option Addr) (c0 : Nat) (l0 : List (S72)) (a1 : Int) (r : Int) (w : World) (hr0 : Kd.C k72 w A0 l0.length l0) (hc0 : l0.length ≤ c0) (h : laws_szFieldS.f k l0 a1 = some r) :
  Calls Tryz.prog 10 #[.slice A0 l0.length c0, .int .i64 a1] w fun e w' => e = .returned (.int .i64 r) ∧ Below w.heap.size w w' := by
 have hu72 := Tryz.underlying72; have HR0 := am_ hr0; have HC0 := am_ hc0; clear hr0 hc0; have HB := am_ (Below.refl w.heap.size w); have H : (if (wrap64 (a1 - (l0.length : Int))) < 0 then (some (-1)) else (laws_szFieldS.l0 k l0 (wrap64 (a1 - (l0.length : Int))) 0)) = some r := h; clear h; by_cases c3 : (wrap64 (a1 - (l0.length : Int))) < 0
 ·rw [if_pos c3] at H; have c3b0 : decide ((wrap64 (a1 - (l0.length : Int))) < 0) = true := decide_eq_true c3; clear c3; obtain rfl := Option.some.inj H; go_enter Tryz.func10, Tryz.ntmps10
  go_wp2; go_ret
  exact ⟨u5_, u0_⟩
 ·rw [if_neg c3] at H; have c3b0 : decide ((wrap64 (a1 - (l0.length : Int))) < 0) = false := decide_eq_false c3; clear c3; have H' := am_ H; clear H; go_enter Tryz.func10, Tryz.ntmps10
  go_wp2; go_loopg [1, 5] k (fun kq v1 v5 w' => ∃ (x1_1 : Int) (x5_1 : Int), v1 = .int .i64 x1_1 ∧ v5 = .int .i64 x5_1 ∧ Aside0 (laws_szFieldS.l0 kq l0 x1_1 x5_1 = some r) ∧ Aside0 (kq ≤ k) ∧ Aside0 (Below w.heap.size w w'))
  case atStart => exact ⟨(wrap64 (a1 - (l0.length : Int))), (0), u15_, u15_, H', ⟨Nat.le_refl _⟩, ⟨u0_⟩⟩
  case round =>
   clear H'; try clear c1
   try clear p2
   try clear c3
   try clear c3b0
   obtain ⟨x1_1, x5_1, rfl, rfl, HA, HK1, HB⟩ := hrel; cases gk with
   | zero => exact absurd HA.out (by simp [laws_szFieldS.l0])
   | succ k1 =>
    have H := HA.out; clear HA; simp only [laws_szFieldS.l0] at H; by_cases c4 : x5_1 < (l0.length : Int)
    ·rw [if_pos c4] at H; have c4b0 : decide (x5_1 < (l0.length : Int)) = true := decide_eq_true c4; clear c4; by_cases c5 : 0 ≤ x5_1
     ·rw [if_pos c5] at H; have c5b0 : decide (0 ≤ x5_1) = true := decide_eq_true c5; clear c5; replace H := Option.bind_eq_some_iff.mp H; obtain ⟨t103, A60, H⟩ := H; replace H : (if t103 < 0 then (some (-1)) else (laws_szFieldS.l0 k1 l0 t103 (wrap64 (x5_1 + 1)))) = some r := H; have A6 := am_ A60; clear A60; by_cases c7 : t103 < 0
      ·rw [if_pos c7] at H; have c7b0 : decide (t103 < 0) = true := decide_eq_true c7; clear c7; obtain rfl := Option.some.inj H; have p102 : 0 ≤ (x5_1 : Int) := of_decide_eq_true u4_; have q102 : x5_1 < (l0.length : Int) := of_decide_eq_true u4_; obtain ⟨ad102, e102, hx102_0, hx102_1, hx102_2⟩ := at_T72 HR0.out x5_1 p102 q102; cases e102; replace hx102_0 := (HB.out.cell (World.block_lt_of_cell? w _ hx102_0)).trans hx102_0; replace hx102_1 := (HB.out.cell (World.block_lt_of_cell? w _ hx102_1)).trans hx102_1; replace hx102_2 := (HB.out.cell (World.block_lt_of_cell? w _ hx102_2)).trans hx102_2; replace p102 := eq_true p102; replace q102 := eq_true q102; go_wp2_with (first | ((with_reducible refine gate_callee (f := 36) rfl ?_); refine goesL_ (some 23) rfl rfl Tryz.func36 u8_ rfl #[.agg #[.string ((rd_T72 l0 x5_1).f0), .int .i64 ((rd_T72 l0 x5_1).f1), .int .i64 ((rd_T72 l0 x5_1).f2)], .int .i64 x1_1] rfl u2_ ?_; (with_reducible refine (laws_szField.calls ((rd_T72 l0 x5_1).f0) ((rd_T72 l0 x5_1).f1) ((rd_T72 l0 x5_1).f2) x1_1 t103 _ A6.out).mono ?_); rintro e w8 ⟨rfl, hb⟩; refine ⟨_, rfl, ?_⟩; replace HB := am_ (below_step u0_ hb); (try clear hb); (try clear hb2); (try clear hk); (try clear hi)))
       go_ret
       exact ⟨u5_, u0_⟩
      ·rw [if_neg c7] at H; have c7b0 : decide (t103 < 0) = false := decide_eq_false c7; clear c7; have H' := am_ H; clear H; have p102 : 0 ≤ (x5_1 : Int) := of_decide_eq_true u4_; have q102 : x5_1 < (l0.length : Int) := of_decide_eq_true u4_; obtain ⟨ad102, e102, hx102_0, hx102_1, hx102_2⟩ := at_T72 HR0.out x5_1 p102 q102; cases e102; replace hx102_0 := (HB.out.cell (World.block_lt_of_cell? w _ hx102_0)).trans hx102_0; replace hx102_1 := (HB.out.cell (World.block_lt_of_cell? w _ hx102_1)).trans hx102_1; replace hx102_2 := (HB.out.cell (World.block_lt_of_cell? w _ hx102_2)).trans hx102_2; replace p102 := eq_true p102; replace q102 := eq_true q102; go_wp2_with (first | ((with_reducible refine gate_callee (f := 36) rfl ?_); refine goesL_ (some 23) rfl rfl Tryz.func36 u8_ rfl #[.agg #[.string ((rd_T72 l0 x5_1).f0), .int .i64 ((rd_T72 l0 x5_1).f1), .int .i64 ((rd_T72 l0 x5_1).f2)], .int .i64 x1_1] rfl u2_ ?_; (with_reducible refine (laws_szField.calls ((rd_T72 l0 x5_1).f0) ((rd_T72 l0 x5_1).f1) ((rd_T72 l0 x5_1).f2) x1_1 t103 _ A6.out).mono ?_); rintro e w9 ⟨rfl, hb⟩; refine ⟨_, rfl, ?_⟩; replace HB := am_ (below_step u0_ hb); (try clear hb); (try clear hb2); (try clear hk); (try clear hi)))
       go_roundg k1
       case measure => have := HK1.out; omega
       case rel => exact ⟨(t103), (wrap64 (x5_1 + 1)), u15_, u15_, H', ⟨u70_⟩, ⟨u0_⟩⟩
     ·exact u153_
    ·rw [if_neg c4] at H; have c4b0 : decide (x5_1 < (l0.length : Int)) = false := decide_eq_false c4; clear c4; obtain rfl := Option.some.inj H; go_wp2; go_ret
     exact ⟨u5_, u0_⟩

/-! ### laws_szCell: function 72 -/
def laws_szCell.f (a0_0 : ByteArray) (a0_1 : ByteArray) (a1 : Int) : Option (Int) := if (wrap64 (a1 - (a0_0.size : Int))) < 0 then (some (-1)) else (if (wrap64 ((wrap64 (a1 - (a0_0.size : Int))) - (a0_1.size : Int))) < 0 then (some (-1)) else (some (wrap64 ((wrap64 (a1 - (a0_0.size : Int))) - (a0_1.size : Int)))))
set_option maxHeartbeats 8000000 in
set_option maxRecDepth 100000 in
theorem laws_szCell.calls (a0_0 : ByteArray) (a0_1 : ByteArray) (a1 : Int) (r : Int) (w : World) (h : laws_szCell.f a0_0 a0_1 a1 = some r) :
  Calls Tryz.prog 72 #[.agg #[.string a0_0, .string a0_1], .int .i64 a1] w fun e w' => e = .returned (.int .i64 r) ∧ Below w.heap.size w w' := by
 have hu117 := Tryz.underlying117; have HB := am_ (Below.refl w.heap.size w); have H : (if (wrap64 (a1 - (a0_0.size : Int))) < 0 then (some (-1)) else (if (wrap64 ((wrap64 (a1 - (a0_0.size : Int))) - (a0_1.size : Int))) < 0 then (some (-1)) else (some (wrap64 ((wrap64 (a1 - (a0_0.size : Int))) - (a0_1.size : Int)))))) = some r := h; clear h; by_cases c3 : (wrap64 (a1 - (a0_0.size : Int))) < 0
 ·rw [if_pos c3] at H; have c3b0 : decide ((wrap64 (a1 - (a0_0.size : Int))) < 0) = true := decide_eq_true c3; clear c3; obtain rfl := Option.some.inj H; go_enter Tryz.func72, Tryz.ntmps72
  go_wp2_with (first | ((with_reducible refine gate_dst (N := 2) rfl ?_); refine box_event ?hg (N := 2) ?hd (cs := #[.string a0_0, .string a0_1]) (t := 117) ?hr ?_; (case hd => rfl); (case hg => rfl); (case hr => first | (go_simp; done) | (go_simp; rfl)); intro gb104 hg w4 hbox hb; have BK104 := am_ (hbox); have GW104 := am_ ((by rw [hg]; exact (below_size u0_) : w.heap.size ≤ gb104)); have GE104 := GW104; replace HB := am_ (below_step u0_ hb); clear hb hbox hg; have hcz5_0 : w4.cell? ⟨gb104, 0, none⟩ = some (.string a0_0) := (blk_cell BK104.out 0).trans rfl; have hcz5_1 : w4.cell? ⟨gb104, 1, none⟩ = some (.string a0_1) := (blk_cell BK104.out 1).trans rfl; have hfz5_0 := blk_frozen BK104.out 0; have hfz5_1 := blk_frozen BK104.out 1))
  go_ret
  exact ⟨u5_, u97_⟩
 ·rw [if_neg c3] at H; have c3b0 : decide ((wrap64 (a1 - (a0_0.size : Int))) < 0) = false := decide_eq_false c3; clear c3; by_cases c6 : (wrap64 ((wrap64 (a1 - (a0_0.size : Int))) - (a0_1.size : Int))) < 0
  ·rw [if_pos c6] at H; have c6b0 : decide ((wrap64 ((wrap64 (a1 - (a0_0.size : Int))) - (a0_1.size : Int))) < 0) = true := decide_eq_true c6; clear c6; obtain rfl := Option.some.inj H; go_enter Tryz.func72, Tryz.ntmps72
   go_wp2_with (first | ((with_reducible refine gate_dst (N := 2) rfl ?_); refine box_event ?hg (N := 2) ?hd (cs := #[.string a0_0, .string a0_1]) (t := 117) ?hr ?_; (case hd => rfl); (case hg => rfl); (case hr => first | (go_simp; done) | (go_simp; rfl)); intro gb104 hg w7 hbox hb; have BK104 := am_ (hbox); have GW104 := am_ ((by rw [hg]; exact (below_size u0_) : w.heap.size ≤ gb104)); have GE104 := GW104; replace HB := am_ (below_step u0_ hb); clear hb hbox hg; have hcz8_0 : w7.cell? ⟨gb104, 0, none⟩ = some (.string a0_0) := (blk_cell BK104.out 0).trans rfl; have hcz8_1 : w7.cell? ⟨gb104, 1, none⟩ = some (.string a0_1) := (blk_cell BK104.out 1).trans rfl; have hfz8_0 := blk_frozen BK104.out 0; have hfz8_1 := blk_frozen BK104.out 1))
   go_ret
   exact ⟨u5_, u97_⟩
  ·rw [if_neg c6] at H; have c6b0 : decide ((wrap64 ((wrap64 (a1 - (a0_0.size : Int))) - (a0_1.size : Int))) < 0) = false := decide_eq_false c6; clear c6; obtain rfl := Option.some.inj H; go_enter Tryz.func72, Tryz.ntmps72
   go_wp2_with (first | ((with_reducible refine gate_dst (N := 2) rfl ?_); refine box_event ?hg (N := 2) ?hd (cs := #[.string a0_0, .string a0_1]) (t := 117) ?hr ?_; (case hd => rfl); (case hg => rfl); (case hr => first | (go_simp; done) | (go_simp; rfl)); intro gb104 hg w9 hbox hb; have BK104 := am_ (hbox); have GW104 := am_ ((by rw [hg]; exact (below_size u0_) : w.heap.size ≤ gb104)); have GE104 := GW104; replace HB := am_ (below_step u0_ hb); clear hb hbox hg; have hcz10_0 : w9.cell? ⟨gb104, 0, none⟩ = some (.string a0_0) := (blk_cell BK104.out 0).trans rfl; have hcz10_1 : w9.cell? ⟨gb104, 1, none⟩ = some (.string a0_1) := (blk_cell BK104.out 1).trans rfl; have hfz10_0 := blk_frozen BK104.out 0; have hfz10_1 := blk_frozen BK104.out 1))
   go_ret
   exact ⟨u5_, u97_⟩

/-! ### laws_szCellS: function 37 -/
def laws_szCellS.l0 : Nat → List (S117) → Int → Int → Option (Int)
 | 0, _, _, _ => none
 | k + 1, x0, x1, x5 => if x5 < (x0.length : Int) then (if 0 ≤ x5 then ((laws_szCell.f ((rd_T117 x0 x5).f0) ((rd_T117 x0 x5).f1) x1).bind fun t106 => (if t106 < 0 then (some (-1)) else (laws_szCellS.l0 k x0 t106 (wrap64 (x5 + 1))))) else (none)) else (some x1)
def laws_szCellS.f (k : Nat) (l0 : List (S117)) (a1 : Int) : Option (Int) := if (wrap64 (a1 - (l0.length : Int))) < 0 then (some (-1)) else (laws_szCellS.l0 k l0 (wrap64 (a1 - (l0.length : Int))) 0)
theorem laws_szCellS.mono_l : ∀ k, (∀ y0 y1 y2, LeO (laws_szCellS.l0 k y0 y1 y2) (laws_szCellS.l0 (k + 1) y0 y1 y2))
 | 0 => fun _ _ _ r h => by simp [laws_szCellS.l0] at h
 | k + 1 => by
  have ih0 := laws_szCellS.mono_l k
  ·intro y0 y1 y2; unfold laws_szCellS.l0
   repeat' first
   | (with_reducible exact ih0 _ _ _)
   | (with_reducible exact LeO.refl _)
   | (with_reducible exact LeO.none _)
   | (with_reducible refine LeO.ite ?_ ?_)
   | (with_reducible refine LeO.bind ?_ (fun _ => ?_))
   | exact ih0 _ _ _
   | exact LeO.none _
   | refine LeO.ite ?_ ?_
   | refine LeO.bind ?_ (fun _ => ?_)
theorem laws_szCellS.mono : ∀ a0 a1 k, LeO (laws_szCellS.f k a0 a1) (laws_szCellS.f (k + 1) a0 a1) := by
 intro a0 a1 k; have ih0 := laws_szCellS.mono_l k; unfold laws_szCellS.f
 repeat' first
   | (with_reducible exact ih0 _ _ _)
   | (with_reducible exact LeO.refl _)
   | (with_reducible exact LeO.none _)
   | (with_reducible refine LeO.ite ?_ ?_)
   | (with_reducible refine LeO.bind ?_ (fun _ => ?_))
   | exact ih0 _ _ _
   | exact LeO.none _
   | refine LeO.ite ?_ ?_
   | refine LeO.bind ?_ (fun _ => ?_)
set_option maxHeartbeats 8000000 in
set_option maxRecDepth 100000 in
theorem laws_szCellS.calls (k : Nat) (A0 : Option Addr) (c0 : Nat) (l0 : List (S117)) (a1 : Int) (r : Int) (w : World) (hr0 : Kd.C k117 w A0 l0.length l0) (hc0 : l0.length ≤ c0) (h : laws_szCellS.f k l0 a1 = some r) :
  Calls Tryz.prog 37 #[.slice A0 l0.length c0, .int .i64 a1] w fun e w' => e = .returned (.int .i64 r) ∧ Below w.heap.size w w' := by
 have hu117 := Tryz.underlying117; have HR0 := am_ hr0; have HC0 := am_ hc0; clear hr0 hc0; have HB := am_ (Below.refl w.heap.size w); have H : (if (wrap64 (a1 - (l0.length : Int))) < 0 then (some (-1)) else (laws_szCellS.l0 k l0 (wrap64 (a1 - (l0.length : Int))) 0)) = some r := h; clear h; by_cases c3 : (wrap64 (a1 - (l0.length : Int))) < 0
 ·rw [if_pos c3] at H; have c3b0 : decide ((wrap64 (a1 - (l0.length : Int))) < 0) = true := decide_eq_true c3; clear c3; obtain rfl := Option.some.inj H; go_enter Tryz.func37, Tryz.ntmps37
  go_wp2; go_ret
  exact ⟨u5_, u0_⟩
 ·rw [if_neg c3] at H; have c3b0 : decide ((wrap64 (a1 - (l0.length : Int))) < 0) = false := decide_eq_false c3; clear c3; have H' := am_ H; clear H; go_enter Tryz.func37, Tryz.ntmps37
  go_wp2; go_loopg [1, 5] k (fun kq v1 v5 w' => ∃ (x1_1 : Int) (x5_1 : Int), v1 = .int .i64 x1_1 ∧ v5 = .int .i64 x5_1 ∧ Aside0 (laws_szCellS.l0 kq l0 x1_1 x5_1 = some r) ∧ Aside0 (kq ≤ k) ∧ Aside0 (Below w.heap.size w w'))
  case atStart => exact ⟨(wrap64 (a1 - (l0.length : Int))), (0), u15_, u15_, H', ⟨Nat.le_refl _⟩, ⟨u0_⟩⟩
  case round =>
   clear H'; try clear p2
   try clear c3
   try clear c3b0
   obtain ⟨x1_1, x5_1, rfl, rfl, HA, HK1, HB⟩ := hrel; cases gk with
   | zero => exact absurd HA.out (by simp [laws_szCellS.l0])
   | succ k1 =>
    have H := HA.out; clear HA; simp only [laws_szCellS.l0] at H; by_cases c4 : x5_1 < (l0.length : Int)
    ·rw [if_pos c4] at H; have c4b0 : decide (x5_1 < (l0.length : Int)) = true := decide_eq_true c4; clear c4; by_cases c5 : 0 ≤ x5_1
     ·rw [if_pos c5] at H; have c5b0 : decide (0 ≤ x5_1) = true := decide_eq_true c5; clear c5; replace H := Option.bind_eq_some_iff.mp H; obtain ⟨t106, A60, H⟩ := H; replace H : (if t106 < 0 then (some (-1)) else (laws_szCellS.l0 k1 l0 t106 (wrap64 (x5_1 + 1)))) = some r := H; have A6 := am_ A60; clear A60; by_cases c7 : t106 < 0
      ·rw [if_pos c7] at H; have c7b0 : decide (t106 < 0) = true := decide_eq_true c7; clear c7; obtain rfl := Option.some.inj H; have p105 : 0 ≤ (x5_1 : Int) := of_decide_eq_true u4_; have q105 : x5_1 < (l0.length : Int) := of_decide_eq_true u4_; obtain ⟨ad105, e105, hx105_0, hx105_1⟩ := at_T117 HR0.out x5_1 p105 q105; cases e105; replace hx105_0 := (HB.out.cell (World.block_lt_of_cell? w _ hx105_0)).trans hx105_0; replace hx105_1 := (HB.out.cell (World.block_lt_of_cell? w _ hx105_1)).trans hx105_1; replace p105 := eq_true p105; replace q105 := eq_true q105; go_wp2_with (first | ((with_reducible refine gate_callee (f := 72) rfl ?_); refine goesL_ (some 23) rfl rfl Tryz.func72 u8_ rfl #[.agg #[.string ((rd_T117 l0 x5_1).f0), .string ((rd_T117 l0 x5_1).f1)], .int .i64 x1_1] rfl u2_ ?_; (with_reducible refine (laws_szCell.calls ((rd_T117 l0 x5_1).f0) ((rd_T117 l0 x5_1).f1) x1_1 t106 _ A6.out).mono ?_); rintro e w8 ⟨rfl, hb⟩; refine ⟨_, rfl, ?_⟩; replace HB := am_ (below_step u0_ hb); (try clear hb); (try clear hb2); (try clear hk); (try clear hi)))
       go_ret
       exact ⟨u5_, u0_⟩
      ·rw [if_neg c7] at H; have c7b0 : decide (t106 < 0) = false := decide_eq_false c7; clear c7; have H' := am_ H; clear H; have p105 : 0 ≤ (x5_1 : Int) := of_decide_eq_true u4_; have q105 : x5_1 < (l0.length : Int) := of_decide_eq_true u4_; obtain ⟨ad105, e105, hx105_0, hx105_1⟩ := at_T117 HR0.out x5_1 p105 q105; cases e105; replace hx105_0 := (HB.out.cell (World.block_lt_of_cell? w _ hx105_0)).trans hx105_0; replace hx105_1 := (HB.out.cell (World.block_lt_of_cell? w _ hx105_1)).trans hx105_1; replace p105 := eq_true p105; replace q105 := eq_true q105; go_wp2_with (first | ((with_reducible refine gate_callee (f := 72) rfl ?_); refine goesL_ (some 23) rfl rfl Tryz.func72 u8_ rfl #[.agg #[.string ((rd_T117 l0 x5_1).f0), .string ((rd_T117 l0 x5_1).f1)], .int .i64 x1_1] rfl u2_ ?_; (with_reducible refine (laws_szCell.calls ((rd_T117 l0 x5_1).f0) ((rd_T117 l0 x5_1).f1) x1_1 t106 _ A6.out).mono ?_); rintro e w9 ⟨rfl, hb⟩; refine ⟨_, rfl, ?_⟩; replace HB := am_ (below_step u0_ hb); (try clear hb); (try clear hb2); (try clear hk); (try clear hi)))
       go_roundg k1
       case measure => have := HK1.out; omega
       case rel => exact ⟨(t106), (wrap64 (x5_1 + 1)), u15_, u15_, H', ⟨u70_⟩, ⟨u0_⟩⟩
     ·exact u153_
    ·rw [if_neg c4] at H; have c4b0 : decide (x5_1 < (l0.length : Int)) = false := decide_eq_false c4; clear c4; obtain rfl := Option.some.inj H; go_wp2; go_ret
     exact ⟨u5_, u0_⟩

/-! ### laws_szDoc: function 11 -/
def laws_szDoc.f (k : Nat) (a0_0 : ByteArray) (l0_1 : List (S117)) (a1 : Int) : Option (Int) := if (wrap64 (a1 - (a0_0.size : Int))) < 0 then (some (-1)) else ((laws_szCellS.f k l0_1 (wrap64 (a1 - (a0_0.size : Int)))).bind fun t108 => (if t108 < 0 then (some (-1)) else (some t108)))
theorem laws_szDoc.mono : ∀ a0 a1 a2 k, LeO (laws_szDoc.f k a0 a1 a2) (laws_szDoc.f (k + 1) a0 a1 a2) := by
 intro a0 a1 a2 k; unfold laws_szDoc.f
 repeat' first
   | (with_reducible exact laws_szCellS.mono _ _ _)
   | (with_reducible exact LeO.refl _)
   | (with_reducible exact LeO.none _)
   | (with_reducible refine LeO.ite ?_ ?_)
   | (with_reducible refine LeO.bind ?_ (fun _ => ?_))
   | exact laws_szCellS.mono _ _ _
   | exact LeO.none _
   | refine LeO.ite ?_ ?_
   | refine LeO.bind ?_ (fun _ => ?_)
set_option maxHeartbeats 8000000 in
set_option maxRecDepth 100000 in
theorem laws_szDoc.calls (k : Nat) (a0_0 : ByteArray) (A0_1 : Option Addr) (c0_1 : Nat) (l0_1 : List (S117)) (a1 : Int) (r : Int) (w : World) (hr0_1 : Kd.C k117 w A0_1 l0_1.length l0_1) (hc0_1 : l0_1.length ≤ c0_1) (h : laws_szDoc.f k a0_0 l0_1 a1 = some r) :
  Calls Tryz.prog 11 #[.agg #[.string a0_0, .slice A0_1 l0_1.length c0_1], .int .i64 a1] w fun e w' => e = .returned (.int .i64 r) ∧ Below w.heap.size w w' := by
 have hu37 := Tryz.underlying37; have HR0_1 := am_ hr0_1; have HC0_1 := am_ hc0_1; clear hr0_1 hc0_1; have HB := am_ (Below.refl w.heap.size w); have H : (if (wrap64 (a1 - (a0_0.size : Int))) < 0 then (some (-1)) else ((laws_szCellS.f k l0_1 (wrap64 (a1 - (a0_0.size : Int)))).bind fun t108 => (if t108 < 0 then (some (-1)) else (some t108)))) = some r := h; clear h; by_cases c3 : (wrap64 (a1 - (a0_0.size : Int))) < 0
 ·rw [if_pos c3] at H; have c3b0 : decide ((wrap64 (a1 - (a0_0.size : Int))) < 0) = true := decide_eq_true c3; clear c3; obtain rfl := Option.some.inj H; go_enter Tryz.func11, Tryz.ntmps11
  go_wp2_with (first | ((with_reducible refine gate_dst (N := 2) rfl ?_); refine box_event ?hg (N := 2) ?hd (cs := #[.string a0_0, .slice A0_1 l0_1.length c0_1]) (t := 37) ?hr ?_; (case hd => rfl); (case hg => rfl); (case hr => first | (go_simp; done) | (go_simp; rfl)); intro gb107 hg w4 hbox hb; have BK107 := am_ (hbox); have GW107 := am_ ((by rw [hg]; exact (below_size u0_) : w.heap.size ≤ gb107)); have GE107 := GW107; replace HB := am_ (below_step u0_ hb); clear hb hbox hg; have hcz5_0 : w4.cell? ⟨gb107, 0, none⟩ = some (.string a0_0) := (blk_cell BK107.out 0).trans rfl; have hcz5_1 : w4.cell? ⟨gb107, 1, none⟩ = some (.slice A0_1 l0_1.length c0_1) := (blk_cell BK107.out 1).trans rfl; have hfz5_0 := blk_frozen BK107.out 0; have hfz5_1 := blk_frozen BK107.out 1))
  go_ret
  exact ⟨u5_, u76_⟩
 ·rw [if_neg c3] at H; have c3b0 : decide ((wrap64 (a1 - (a0_0.size : Int))) < 0) = false := decide_eq_false c3; clear c3; replace H := Option.bind_eq_some_iff.mp H; obtain ⟨t108, A60, H⟩ := H; replace H : (if t108 < 0 then (some (-1)) else (some t108)) = some r := H; have A6 := am_ A60; clear A60; by_cases c7 : t108 < 0
  ·rw [if_pos c7] at H; have c7b0 : decide (t108 < 0) = true := decide_eq_true c7; clear c7; obtain rfl := Option.some.inj H; go_enter Tryz.func11, Tryz.ntmps11
   go_wp2_with (first | ((with_reducible refine gate_dst (N := 2) rfl ?_); refine box_event ?hg (N := 2) ?hd (cs := #[.string a0_0, .slice A0_1 l0_1.length c0_1]) (t := 37) ?hr ?_; (case hd => rfl); (case hg => rfl); (case hr => first | (go_simp; done) | (go_simp; rfl)); intro gb107 hg w8 hbox hb; have BK107 := am_ (hbox); have GW107 := am_ ((by rw [hg]; exact (below_size u0_) : w.heap.size ≤ gb107)); have GE107 := GW107; replace HB := am_ (below_step u0_ hb); clear hb hbox hg; have hcz9_0 : w8.cell? ⟨gb107, 0, none⟩ = some (.string a0_0) := (blk_cell BK107.out 0).trans rfl; have hcz9_1 : w8.cell? ⟨gb107, 1, none⟩ = some (.slice A0_1 l0_1.length c0_1) := (blk_cell BK107.out 1).trans rfl; have hfz9_0 := blk_frozen BK107.out 0; have hfz9_1 := blk_frozen BK107.out 1) | ((with_reducible refine gate_callee (f := 37) rfl ?_); refine goesL_ (some 15) rfl rfl Tryz.func37 u8_ rfl #[.slice A0_1 l0_1.length c0_1, .int .i64 (wrap64 (a1 - (a0_0.size : Int)))] rfl u2_ ?_; (with_reducible refine (laws_szCellS.calls k _ _ l0_1 (wrap64 (a1 - (a0_0.size : Int))) t108 _ ?side1 ?side2 A6.out).mono ?_); (case side1 => repeat (first | exact (Kd.C_below HR0_1.out HB.out) | (with_reducible refine Kd.C_alloc ?_ _) | (with_reducible refine Kd.C_drewN ?_ _) | (with_reducible refine Kd.C_drew ?_))); (case side2 => exact HC0_1.out); rintro e w10 ⟨rfl, hb⟩; refine ⟨_, rfl, ?_⟩; replace BK107 := am_ (blk_below (g := gb107) (o := .cells #[.string a0_0, .slice A0_1 l0_1.length c0_1] 37 (0, 0)) u137_ hb); replace HB := am_ (below_step u76_ hb); (try clear hb); (try clear hb2); (try clear hk); (try clear hi)))
   go_ret
   exact ⟨u5_, u76_⟩
  ·rw [if_neg c7] at H; have c7b0 : decide (t108 < 0) = false := decide_eq_false c7; clear c7; obtain rfl := Option.some.inj H; go_enter Tryz.func11, Tryz.ntmps11
   go_wp2_with (first | ((with_reducible refine gate_dst (N := 2) rfl ?_); refine box_event ?hg (N := 2) ?hd (cs := #[.string a0_0, .slice A0_1 l0_1.length c0_1]) (t := 37) ?hr ?_; (case hd => rfl); (case hg => rfl); (case hr => first | (go_simp; done) | (go_simp; rfl)); intro gb107 hg w11 hbox hb; have BK107 := am_ (hbox); have GW107 := am_ ((by rw [hg]; exact (below_size u0_) : w.heap.size ≤ gb107)); have GE107 := GW107; replace HB := am_ (below_step u0_ hb); clear hb hbox hg; have hcz12_0 : w11.cell? ⟨gb107, 0, none⟩ = some (.string a0_0) := (blk_cell BK107.out 0).trans rfl; have hcz12_1 : w11.cell? ⟨gb107, 1, none⟩ = some (.slice A0_1 l0_1.length c0_1) := (blk_cell BK107.out 1).trans rfl; have hfz12_0 := blk_frozen BK107.out 0; have hfz12_1 := blk_frozen BK107.out 1) | ((with_reducible refine gate_callee (f := 37) rfl ?_); refine goesL_ (some 15) rfl rfl Tryz.func37 u8_ rfl #[.slice A0_1 l0_1.length c0_1, .int .i64 (wrap64 (a1 - (a0_0.size : Int)))] rfl u2_ ?_; (with_reducible refine (laws_szCellS.calls k _ _ l0_1 (wrap64 (a1 - (a0_0.size : Int))) t108 _ ?side1 ?side2 A6.out).mono ?_); (case side1 => repeat (first | exact (Kd.C_below HR0_1.out HB.out) | (with_reducible refine Kd.C_alloc ?_ _) | (with_reducible refine Kd.C_drewN ?_ _) | (with_reducible refine Kd.C_drew ?_))); (case side2 => exact HC0_1.out); rintro e w13 ⟨rfl, hb⟩; refine ⟨_, rfl, ?_⟩; replace BK107 := am_ (blk_below (g := gb107) (o := .cells #[.string a0_0, .slice A0_1 l0_1.length c0_1] 37 (0, 0)) u137_ hb); replace HB := am_ (below_step u76_ hb); (try clear hb); (try clear hb2); (try clear hk); (try clear hi)))
   go_ret
   exact ⟨u5_, u76_⟩

/-! ### spec_DocText: function 38 -/
def spec_DocText.l0 : Nat → ByteArray → Int → ByteArray → List (S96) → Option (ByteArray × Bool)
 | 0, _, _, _, _ => none
 | k + 1, x1, x6, x110000, x110001 => if x6 < (x110001.length : Int) then (if 0 ≤ x6 then (if ((rd_T96 x110001 x6).f0).toList = x1.toList then (some ((rd_T96 x110001 x6).f1, true)) else (spec_DocText.l0 k x1 (wrap64 (x6 + 1)) x110000 x110001)) else (none)) else (some ((⟨#[]⟩ : ByteArray), false))
def spec_DocText.f (k : Nat) (a0_0 : ByteArray) (l0_1 : List (S96)) (a1 : ByteArray) : Option (ByteArray × Bool) := spec_DocText.l0 k a1 0 a0_0 l0_1
theorem spec_DocText.mono_l : ∀ k, (∀ y0 y1 y2 y3, LeO (spec_DocText.l0 k y0 y1 y2 y3) (spec_DocText.l0 (k + 1) y0 y1 y2 y3))
 | 0 => fun _ _ _ _ r h => by simp [spec_DocText.l0] at h
 | k + 1 => by
  have ih0 := spec_DocText.mono_l k
  ·intro y0 y1 y2 y3; unfold spec_DocText.l0
   repeat' first
   | (with_reducible exact ih0 _ _ _ _)
   | (with_reducible exact LeO.refl _)
   | (with_reducible exact LeO.none _)
   | (with_reducible refine LeO.ite ?_ ?_)
   | (with_reducible refine LeO.bind ?_ (fun _ => ?_))
   | exact ih0 _ _ _ _
   | exact LeO.none _
   | refine LeO.ite ?_ ?_
   | refine LeO.bind ?_ (fun _ => ?_)
theorem spec_DocText.mono : ∀ a0 a1 a2 k, LeO (spec_DocText.f k a0 a1 a2) (spec_DocText.f (k + 1) a0 a1 a2) := by
 intro a0 a1 a2 k; have ih0 := spec_DocText.mono_l k; unfold spec_DocText.f
 repeat' first
   | (with_reducible exact ih0 _ _ _ _)
   | (with_reducible exact LeO.refl _)
   | (with_reducible exact LeO.none _)
   | (with_reducible refine LeO.ite ?_ ?_)
   | (with_reducible refine LeO.bind ?_ (fun _ => ?_))
   | exact ih0 _ _ _ _
   | exact LeO.none _
   | refine LeO.ite ?_ ?_
   | refine LeO.bind ?_ (fun _ => ?_)
set_option maxHeartbeats 8000000 in
set_option maxRecDepth 100000 in
theorem spec_DocText.calls (k : Nat) (a0_0 : ByteArray) (A0_1 : Option Addr) (c0_1 : Nat) (l0_1 : List (S96)) (a1 : ByteArray) (r1 : ByteArray) (r2 : Bool) (w : World) (hr0_1 : Kd.C k96 w A0_1 l0_1.length l0_1) (hc0_1 : l0_1.length ≤ c0_1) (h : spec_DocText.f k a0_0 l0_1 a1 = some (r1, r2)) :
  Calls Tryz.prog 38 #[.agg #[.string a0_0, .slice A0_1 l0_1.length c0_1], .string a1] w fun e w' => e = .returned (.tuple #[.string r1, .bool r2]) ∧ Below w.heap.size w w' := by
 have hu45 := Tryz.underlying45; have HR0_1 := am_ hr0_1; have HC0_1 := am_ hc0_1; clear hr0_1 hc0_1; have HB := am_ (Below.refl w.heap.size w); have H : (spec_DocText.l0 k a1 0 a0_0 l0_1) = some (r1, r2) := h; clear h; have H' := am_ H; clear H; go_enter Tryz.func38, Tryz.ntmps38
 go_wp2_with (first | ((with_reducible refine gate_dst (N := 2) rfl ?_); refine box_event ?hg (N := 2) ?hd (cs := #[.string a0_0, .slice A0_1 l0_1.length c0_1]) (t := 45) ?hr ?_; (case hd => rfl); (case hg => rfl); (case hr => first | (go_simp; done) | (go_simp; rfl)); intro gb109 hg w3 hbox hb; have BK109 := am_ (hbox); have GW109 := am_ ((by rw [hg]; exact (below_size u0_) : w.heap.size ≤ gb109)); have GE109 := GW109; replace HB := am_ (below_step u0_ hb); clear hb hbox hg))
 go_loopg [6] k (fun kq v6 w' => ∃ (x6_1 : Int), v6 = .int .i64 x6_1 ∧ Aside0 (spec_DocText.l0 kq a1 x6_1 a0_0 l0_1 = some (r1, r2)) ∧ Aside0 (kq ≤ k) ∧ Aside0 (w'.heap[gb109]? = some (.cells #[.string a0_0, (.slice A0_1 l0_1.length c0_1)] 45 (0, 0))) ∧ Aside0 (Below w.heap.size w w'))
 case atStart => exact ⟨(0), u15_, H', ⟨Nat.le_refl _⟩, ⟨u138_⟩, ⟨u86_⟩⟩
 case round =>
  clear H'; try clear p2
  try clear c3
  obtain ⟨x6_1, rfl, HA, HK1, BK109, HB⟩ := hrel; cases gk with
  | zero => exact absurd HA.out (by simp [spec_DocText.l0])
  | succ k1 =>
   have H := HA.out; clear HA; simp only [spec_DocText.l0] at H; by_cases c4 : x6_1 < (l0_1.length : Int)
   ·rw [if_pos c4] at H; have c4b0 : decide (x6_1 < (l0_1.length : Int)) = true := decide_eq_true c4; clear c4; by_cases c5 : 0 ≤ x6_1
    ·rw [if_pos c5] at H; have c5b0 : decide (0 ≤ x6_1) = true := decide_eq_true c5; clear c5; by_cases c6 : ((rd_T96 l0_1 x6_1).f0).toList = a1.toList
     ·rw [if_pos c6] at H; have c6b0 : (((rd_T96 l0_1 x6_1).f0).toList == a1.toList) = true := beq_iff_eq.mpr c6; have c6b1 : (((rd_T96 l0_1 x6_1).f0).toList != a1.toList) = false := bne_eq_false_iff_eq.mpr c6; clear c6; simp only [Option.some.injEq, Prod.mk.injEq] at H; obtain ⟨rfl, rfl⟩ := H; have hcz7_0 : wr.cell? ⟨gb109, 0, none⟩ = some (.string a0_0) := (blk_cell BK109.out 0).trans rfl; have hcz7_1 : wr.cell? ⟨gb109, 1, none⟩ = some (.slice A0_1 l0_1.length c0_1) := (blk_cell BK109.out 1).trans rfl; have hfz7_0 := blk_frozen BK109.out 0; have hfz7_1 := blk_frozen BK109.out 1; have p110 : 0 ≤ (x6_1 : Int) := of_decide_eq_true u4_; have q110 : x6_1 < (l0_1.length : Int) := of_decide_eq_true u4_; obtain ⟨ad110, e110, hx110_0, hx110_1⟩ := at_T96 HR0_1.out x6_1 p110 q110; cases e110; replace hx110_0 := (HB.out.cell (World.block_lt_of_cell? w _ hx110_0)).trans hx110_0; replace hx110_1 := (HB.out.cell (World.block_lt_of_cell? w _ hx110_1)).trans hx110_1; replace p110 := eq_true p110; replace q110 := eq_true q110; have p111 : 0 ≤ (x6_1 : Int) := of_decide_eq_true u4_; have q111 : x6_1 < (l0_1.length : Int) := of_decide_eq_true u4_; obtain ⟨ad111, e111, hx111_0, hx111_1⟩ := at_T96 HR0_1.out x6_1 p111 q111; obtain rfl : ad110 = ad111 := (by injection e111); replace hx111_0 := (HB.out.cell (World.block_lt_of_cell? w _ hx111_0)).trans hx111_0; replace hx111_1 := (HB.out.cell (World.block_lt_of_cell? w _ hx111_1)).trans hx111_1; replace p111 := eq_true p111; replace q111 := eq_true q111; go_wp2; go_ret2
      exact ⟨u5_, u86_⟩
     ·rw [if_neg c6] at H; have c6b0 : (((rd_T96 l0_1 x6_1).f0).toList == a1.toList) = false := beq_eq_false_iff_ne.mpr c6; have c6b1 : (((rd_T96 l0_1 x6_1).f0).toList != a1.toList) = true := bne_iff_ne.mpr c6; have H' := am_ H; clear H; have hcz8_0 : wr.cell? ⟨gb109, 0, none⟩ = some (.string a0_0) := (blk_cell BK109.out 0).trans rfl; have hcz8_1 : wr.cell? ⟨gb109, 1, none⟩ = some (.slice A0_1 l0_1.length c0_1) := (blk_cell BK109.out 1).trans rfl; have hfz8_0 := blk_frozen BK109.out 0; have hfz8_1 := blk_frozen BK109.out 1; have p110 : 0 ≤ (x6_1 : Int) := of_decide_eq_true u4_; have q110 : x6_1 < (l0_1.length : Int) := of_decide_eq_true u4_; obtain ⟨ad110, e110, hx110_0, hx110_1⟩ := at_T96 HR0_1.out x6_1 p110 q110; cases e110; replace hx110_0 := (HB.out.cell (World.block_lt_of_cell? w _ hx110_0)).trans hx110_0; replace hx110_1 := (HB.out.cell (World.block_lt_of_cell? w _ hx110_1)).trans hx110_1; replace p110 := eq_true p110; replace q110 := eq_true q110; go_wp2; go_roundg k1
      case measure => have := HK1.out; omega
      case rel => exact ⟨(wrap64 (x6_1 + 1)), u15_, H', ⟨u70_⟩, ⟨u138_⟩, ⟨u86_⟩⟩
    ·exact u153_
   ·rw [if_neg c4] at H; have c4b0 : decide (x6_1 < (l0_1.length : Int)) = false := decide_eq_false c4; clear c4; simp only [Option.some.injEq, Prod.mk.injEq] at H; obtain ⟨rfl, rfl⟩ := H; have hcz9_0 : wr.cell? ⟨gb109, 0, none⟩ = some (.string a0_0) := (blk_cell BK109.out 0).trans rfl; have hcz9_1 : wr.cell? ⟨gb109, 1, none⟩ = some (.slice A0_1 l0_1.length c0_1) := (blk_cell BK109.out 1).trans rfl; have hfz9_0 := blk_frozen BK109.out 0; have hfz9_1 := blk_frozen BK109.out 1; go_wp2; go_ret2
    exact ⟨u5_, u86_⟩

/-! ### spec_l1In: function 55 -/
def spec_l1In.f (a0 : Int) (a1 : Int) (a2 : Int) : Option (Bool) := if a0 ≥ a1 then (some (decide (a0 ≤ a2))) else (some false)
set_option maxHeartbeats 8000000 in
set_option maxRecDepth 100000 in
theorem spec_l1In.calls (a0 : Int) (a1 : Int) (a2 : Int) (r : Bool) (w : World) (h : spec_l1In.f a0 a1 a2 = some r) :
  Calls Tryz.prog 55 #[.int .i64 a0, .int .i64 a1, .int .i64 a2] w fun e w' => e = .returned (.bool r) ∧ Drawn0 w w' := by
 have H : (if a0 ≥ a1 then (some (decide (a0 ≤ a2))) else (some false)) = some r := h; clear h; by_cases c4 : a0 ≥ a1
 ·rw [if_pos c4] at H; have c4b0 : decide (a1 ≤ a0) = true := decide_eq_true c4; clear c4; obtain rfl := Option.some.inj H; go_enter Tryz.func55, Tryz.ntmps55
  go_wp2; go_ret
  exact ⟨u25_, u20_⟩
 ·rw [if_neg c4] at H; have c4b0 : decide (a1 ≤ a0) = false := decide_eq_false c4; clear c4; obtain rfl := Option.some.inj H; go_enter Tryz.func55, Tryz.ntmps55
  go_wp2; go_ret
  exact ⟨u25_, u20_⟩

/-! ### spec_NameOk: function 56 -/
def spec_NameOk.l0 : Nat → ByteArray → Int → Option (Bool)
 | 0, _, _ => none
 | k + 1, x0, x3 => if x3 < (x0.size : Int) then (if 0 ≤ x3 then (if (bt x0 x3) ≥ 97 then (if ((bt x0 x3) ≤ 122) then (spec_NameOk.l0 k x0 (wrap64 (x3 + 1))) else (if x3 = 0 then (some false) else (if (bt x0 x3) < 48 then (some false) else (if (bt x0 x3) > 57 then (some false) else (spec_NameOk.l0 k x0 (wrap64 (x3 + 1))))))) else (if x3 = 0 then (some false) else (if (bt x0 x3) < 48 then (some false) else (if (bt x0 x3) > 57 then (some false) else (spec_NameOk.l0 k x0 (wrap64 (x3 + 1))))))) else (none)) else ((spec_l1In.f (x0.size : Int) 1 8).bind fun t112 => (some t112))
def spec_NameOk.f (k : Nat) (a0 : ByteArray) : Option (Bool) := spec_NameOk.l0 k a0 0
theorem spec_NameOk.mono_l : ∀ k, (∀ y0 y1, LeO (spec_NameOk.l0 k y0 y1) (spec_NameOk.l0 (k + 1) y0 y1))
 | 0 => fun _ _ r h => by simp [spec_NameOk.l0] at h
 | k + 1 => by
  have ih0 := spec_NameOk.mono_l k
  ·intro y0 y1; unfold spec_NameOk.l0
   repeat' first
   | (with_reducible exact ih0 _ _)
   | (with_reducible exact LeO.refl _)
   | (with_reducible exact LeO.none _)
   | (with_reducible refine LeO.ite ?_ ?_)
   | (with_reducible refine LeO.bind ?_ (fun _ => ?_))
   | exact ih0 _ _
   | exact LeO.none _
   | refine LeO.ite ?_ ?_
   | refine LeO.bind ?_ (fun _ => ?_)
theorem spec_NameOk.mono : ∀ a0 k, LeO (spec_NameOk.f k a0) (spec_NameOk.f (k + 1) a0) := by
 intro a0 k; have ih0 := spec_NameOk.mono_l k; unfold spec_NameOk.f
 repeat' first
   | (with_reducible exact ih0 _ _)
   | (with_reducible exact LeO.refl _)
   | (with_reducible exact LeO.none _)
   | (with_reducible refine LeO.ite ?_ ?_)
   | (with_reducible refine LeO.bind ?_ (fun _ => ?_))
   | exact ih0 _ _
   | exact LeO.none _
   | refine LeO.ite ?_ ?_
   | refine LeO.bind ?_ (fun _ => ?_)
set_option maxHeartbeats 8000000 in
set_option maxRecDepth 100000 in
theorem spec_NameOk.calls (k : Nat) (a0 : ByteArray) (r : Bool) (w : World) (h : spec_NameOk.f k a0 = some r) :
  Calls Tryz.prog 56 #[.string a0] w fun e w' => e = .returned (.bool r) ∧ Drawn0 w w' := by
 have H : (spec_NameOk.l0 k a0 0) = some r := h; clear h; have H' := am_ H; clear H; go_enter Tryz.func56, Tryz.ntmps56
 go_wp2; go_loopg [3] k (fun kq v3 w' => ∃ (x3_1 : Int), v3 = .int .i64 x3_1 ∧ Aside0 (spec_NameOk.l0 kq a0 x3_1 = some r) ∧ Aside0 (kq ≤ k) ∧ Drawn0 w w')
 case atStart => exact ⟨(0), u15_, H', ⟨Nat.le_refl _⟩, u20_⟩
 case round =>
  clear H'; obtain ⟨x3_1, rfl, HA, HK1, ⟨m1, rfl⟩⟩ := hrel; cases gk with
  | zero => exact absurd HA.out (by simp [spec_NameOk.l0])
  | succ k1 =>
   have H := HA.out; clear HA; simp only [spec_NameOk.l0] at H; by_cases c2 : x3_1 < (a0.size : Int)
   ·rw [if_pos c2] at H; have c2b0 : decide (x3_1 < (a0.size : Int)) = true := decide_eq_true c2; clear c2; by_cases c3 : 0 ≤ x3_1
    ·rw [if_pos c3] at H; have c3b0 : decide (0 ≤ x3_1) = true := decide_eq_true c3; clear c3; by_cases c5 : (bt a0 x3_1) ≥ 97
     ·rw [if_pos c5] at H; have c5b0 : decide (97 ≤ (bt a0 x3_1)) = true := decide_eq_true c5; clear c5; by_cases c7 : ((bt a0 x3_1) ≤ 122)
      ·rw [if_pos c7] at H; have c7b0 : decide ((bt a0 x3_1) ≤ 122) = true := decide_eq_true c7; clear c7; have H' := am_ H; clear H; have p4 : 0 ≤ (x3_1 : Int) := of_decide_eq_true u4_; have q4 : x3_1 < (a0.size : Int) := of_decide_eq_true u4_; have hx4 := bt_at a0 x3_1; replace p4 := eq_true p4; replace q4 := eq_true q4; have p6 : 0 ≤ (x3_1 : Int) := of_decide_eq_true u4_; have q6 : x3_1 < (a0.size : Int) := of_decide_eq_true u4_; have hx6 := bt_at a0 x3_1; replace p6 := eq_true p6; replace q6 := eq_true q6; go_wp2; go_roundg k1
       case measure => have := HK1.out; omega
       case rel => exact ⟨(wrap64 (x3_1 + 1)), u15_, H', ⟨u70_⟩, u20_⟩
      ·rw [if_neg c7] at H; have c7b0 : decide ((bt a0 x3_1) ≤ 122) = false := decide_eq_false c7; clear c7; by_cases c8 : x3_1 = 0
       ·rw [if_pos c8] at H; have c8b0 : (x3_1 == 0) = true := beq_iff_eq.mpr c8; have c8b1 : (x3_1 != 0) = false := bne_eq_false_iff_eq.mpr c8; clear c8; obtain rfl := Option.some.inj H; have p4 : 0 ≤ (x3_1 : Int) := of_decide_eq_true u4_; have q4 : x3_1 < (a0.size : Int) := of_decide_eq_true u4_; have hx4 := bt_at a0 x3_1; replace p4 := eq_true p4; replace q4 := eq_true q4; have p6 : 0 ≤ (x3_1 : Int) := of_decide_eq_true u4_; have q6 : x3_1 < (a0.size : Int) := of_decide_eq_true u4_; have hx6 := bt_at a0 x3_1; replace p6 := eq_true p6; replace q6 := eq_true q6; go_wp2; go_ret
        exact ⟨u25_, u20_⟩
       ·rw [if_neg c8] at H; have c8b0 : (x3_1 == 0) = false := beq_eq_false_iff_ne.mpr c8; have c8b1 : (x3_1 != 0) = true := bne_iff_ne.mpr c8; by_cases c10 : (bt a0 x3_1) < 48
        ·rw [if_pos c10] at H; have c10b0 : decide ((bt a0 x3_1) < 48) = true := decide_eq_true c10; clear c10; obtain rfl := Option.some.inj H; have p4 : 0 ≤ (x3_1 : Int) := of_decide_eq_true u4_; have q4 : x3_1 < (a0.size : Int) := of_decide_eq_true u4_; have hx4 := bt_at a0 x3_1; replace p4 := eq_true p4; replace q4 := eq_true q4; have p6 : 0 ≤ (x3_1 : Int) := of_decide_eq_true u4_; have q6 : x3_1 < (a0.size : Int) := of_decide_eq_true u4_; have hx6 := bt_at a0 x3_1; replace p6 := eq_true p6; replace q6 := eq_true q6; have p9 : 0 ≤ (x3_1 : Int) := of_decide_eq_true u4_; have q9 : x3_1 < (a0.size : Int) := of_decide_eq_true u4_; have hx9 := bt_at a0 x3_1; replace p9 := eq_true p9; replace q9 := eq_true q9; go_wp2; go_ret
         exact ⟨u25_, u20_⟩
        ·rw [if_neg c10] at H; have c10b0 : decide ((bt a0 x3_1) < 48) = false := decide_eq_false c10; clear c10; by_cases c12 : (bt a0 x3_1) > 57
         ·rw [if_pos c12] at H; have c12b0 : decide (57 < (bt a0 x3_1)) = true := decide_eq_true c12; clear c12; obtain rfl := Option.some.inj H; have p4 : 0 ≤ (x3_1 : Int) := of_decide_eq_true u4_; have q4 : x3_1 < (a0.size : Int) := of_decide_eq_true u4_; have hx4 := bt_at a0 x3_1; replace p4 := eq_true p4; replace q4 := eq_true q4; have p6 : 0 ≤ (x3_1 : Int) := of_decide_eq_true u4_; have q6 : x3_1 < (a0.size : Int) := of_decide_eq_true u4_; have hx6 := bt_at a0 x3_1; replace p6 := eq_true p6; replace q6 := eq_true q6; have p9 : 0 ≤ (x3_1 : Int) := of_decide_eq_true u4_; have q9 : x3_1 < (a0.size : Int) := of_decide_eq_true u4_; have hx9 := bt_at a0 x3_1; replace p9 := eq_true p9; replace q9 := eq_true q9; have p11 : 0 ≤ (x3_1 : Int) := of_decide_eq_true u4_; have q11 : x3_1 < (a0.size : Int) := of_decide_eq_true u4_; have hx11 := bt_at a0 x3_1; replace p11 := eq_true p11; replace q11 := eq_true q11; go_wp2; go_ret
          exact ⟨u25_, u20_⟩
         ·rw [if_neg c12] at H; have c12b0 : decide (57 < (bt a0 x3_1)) = false := decide_eq_false c12; clear c12; have H' := am_ H; clear H; have p4 : 0 ≤ (x3_1 : Int) := of_decide_eq_true u4_; have q4 : x3_1 < (a0.size : Int) := of_decide_eq_true u4_; have hx4 := bt_at a0 x3_1; replace p4 := eq_true p4; replace q4 := eq_true q4; have p6 : 0 ≤ (x3_1 : Int) := of_decide_eq_true u4_; have q6 : x3_1 < (a0.size : Int) := of_decide_eq_true u4_; have hx6 := bt_at a0 x3_1; replace p6 := eq_true p6; replace q6 := eq_true q6; have p9 : 0 ≤ (x3_1 : Int) := of_decide_eq_true u4_; have q9 : x3_1 < (a0.size : Int) := of_decide_eq_true u4_; have hx9 := bt_at a0 x3_1; replace p9 := eq_true p9; replace q9 := eq_true q9; have p11 : 0 ≤ (x3_1 : Int) := of_decide_eq_true u4_; have q11 : x3_1 < (a0.size : Int) := of_decide_eq_true u4_; have hx11 := bt_at a0 x3_1; replace p11 := eq_true p11; replace q11 := eq_true q11; go_wp2; go_roundg k1
          case measure => have := HK1.out; omega
          case rel => exact ⟨(wrap64 (x3_1 + 1)), u15_, H', ⟨u70_⟩, u20_⟩
     ·rw [if_neg c5] at H; have c5b0 : decide (97 ≤ (bt a0 x3_1)) = false := decide_eq_false c5; clear c5; by_cases c13 : x3_1 = 0
      ·rw [if_pos c13] at H; have c13b0 : (x3_1 == 0) = true := beq_iff_eq.mpr c13; have c13b1 : (x3_1 != 0) = false := bne_eq_false_iff_eq.mpr c13; clear c13; obtain rfl := Option.some.inj H; have p4 : 0 ≤ (x3_1 : Int) := of_decide_eq_true u4_; have q4 : x3_1 < (a0.size : Int) := of_decide_eq_true u4_; have hx4 := bt_at a0 x3_1; replace p4 := eq_true p4; replace q4 := eq_true q4; go_wp2; go_ret
       exact ⟨u25_, u20_⟩
      ·rw [if_neg c13] at H; have c13b0 : (x3_1 == 0) = false := beq_eq_false_iff_ne.mpr c13; have c13b1 : (x3_1 != 0) = true := bne_iff_ne.mpr c13; by_cases c15 : (bt a0 x3_1) < 48
       ·rw [if_pos c15] at H; have c15b0 : decide ((bt a0 x3_1) < 48) = true := decide_eq_true c15; clear c15; obtain rfl := Option.some.inj H; have p4 : 0 ≤ (x3_1 : Int) := of_decide_eq_true u4_; have q4 : x3_1 < (a0.size : Int) := of_decide_eq_true u4_; have hx4 := bt_at a0 x3_1; replace p4 := eq_true p4; replace q4 := eq_true q4; have p14 : 0 ≤ (x3_1 : Int) := of_decide_eq_true u4_; have q14 : x3_1 < (a0.size : Int) := of_decide_eq_true u4_; have hx14 := bt_at a0 x3_1; replace p14 := eq_true p14; replace q14 := eq_true q14; go_wp2; go_ret
        exact ⟨u25_, u20_⟩
       ·rw [if_neg c15] at H; have c15b0 : decide ((bt a0 x3_1) < 48) = false := decide_eq_false c15; clear c15; by_cases c17 : (bt a0 x3_1) > 57
        ·rw [if_pos c17] at H; have c17b0 : decide (57 < (bt a0 x3_1)) = true := decide_eq_true c17; clear c17; obtain rfl := Option.some.inj H; have p4 : 0 ≤ (x3_1 : Int) := of_decide_eq_true u4_; have q4 : x3_1 < (a0.size : Int) := of_decide_eq_true u4_; have hx4 := bt_at a0 x3_1; replace p4 := eq_true p4; replace q4 := eq_true q4; have p14 : 0 ≤ (x3_1 : Int) := of_decide_eq_true u4_; have q14 : x3_1 < (a0.size : Int) := of_decide_eq_true u4_; have hx14 := bt_at a0 x3_1; replace p14 := eq_true p14; replace q14 := eq_true q14; have p16 : 0 ≤ (x3_1 : Int) := of_decide_eq_true u4_; have q16 : x3_1 < (a0.size : Int) := of_decide_eq_true u4_; have hx16 := bt_at a0 x3_1; replace p16 := eq_true p16; replace q16 := eq_true q16; go_wp2; go_ret
         exact ⟨u25_, u20_⟩
        ·rw [if_neg c17] at H; have c17b0 : decide (57 < (bt a0 x3_1)) = false := decide_eq_false c17; clear c17; have H' := am_ H; clear H; have p4 : 0 ≤ (x3_1 : Int) := of_decide_eq_true u4_; have q4 : x3_1 < (a0.size : Int) := of_decide_eq_true u4_; have hx4 := bt_at a0 x3_1; replace p4 := eq_true p4; replace q4 := eq_true q4; have p14 : 0 ≤ (x3_1 : Int) := of_decide_eq_true u4_; have q14 : x3_1 < (a0.size : Int) := of_decide_eq_true u4_; have hx14 := bt_at a0 x3_1; replace p14 := eq_true p14; replace q14 := eq_true q14; have p16 : 0 ≤ (x3_1 : Int) := of_decide_eq_true u4_; have q16 : x3_1 < (a0.size : Int) := of_decide_eq_true u4_; have hx16 := bt_at a0 x3_1; replace p16 := eq_true p16; replace q16 := eq_true q16; go_wp2; go_roundg k1
         case measure => have := HK1.out; omega
         case rel => exact ⟨(wrap64 (x3_1 + 1)), u15_, H', ⟨u70_⟩, u20_⟩
    ·exact u169_
   ·rw [if_neg c2] at H; have c2b0 : decide (x3_1 < (a0.size : Int)) = false := decide_eq_false c2; clear c2; replace H := Option.bind_eq_some_iff.mp H; obtain ⟨t112, A180, H⟩ := H; replace H : (some t112) = some r := H; have A18 := am_ A180; clear A180; obtain rfl := Option.some.inj H; go_wp2_with (first | ((with_reducible refine gate_callee (f := 55) rfl ?_); refine goesL_ (some 41) rfl rfl Tryz.func55 u8_ rfl #[.int .i64 (a0.size : Int), .int .i64 1, .int .i64 8] rfl u2_ ?_; (with_reducible refine (spec_l1In.calls (a0.size : Int) 1 8 t112 _ A18.out).mono ?_); rintro e w' ⟨rfl, ⟨nd, rfl⟩⟩; refine ⟨_, rfl, ?_⟩))
    go_ret
    exact ⟨u25_, u20_⟩

end Go.Proofs.YtelcdhjdlgedeaaGreatDoor.PFnExactDocTags
